/- A part of the proof: contracts of functions and plain laws; each theorem says its own conditions. -/
import Derived.Test.YtnmhlpnapgojjaaGreatDoorPrettyLaidAl
import Derived.Test.YtnmhlpnapgojjaaGreatDoorPrettyLaidK3
import Derived.Test.YtnmhlpnapgojjaaGreatDoorPrettyLaidK2
import Derived.Test.YtnmhlpnapgojjaaGreatDoorPrettyLaidK9
import Derived.Test.YtnmhlpnapgojjaaGreatDoorPrettyLaidK6
import Derived.Test.YtnmhlpnapgojjaaGreatDoorPrettyLaidK4
import Derived.Test.YtnmhlpnapgojjaaGreatDoorPrettyLaidK0
import Derived.Test.YtnmhlpnapgojjaaGreatDoorPrettyLaidK1
set_option linter.unusedVariables false
set_option linter.unusedSimpArgs false
namespace Go.Proofs.YtnmhlpnapgojjaaGreatDoor
open Go.RowKit Sx LexS _root_.Go.Proofs.Tryz
section
variable {S:Nat→Prop}
theorem qL0 (a b:List Dc) (oa ob:Option Addr) (ca cb:Nat) (w:World) (hA:DcRow w S oa a) (hB:DcRow w S ob b) (hn:a.length≤1099511627776) :
    Ret Tryz.prog 44 [.slice oa a.length ca,.slice ob b.length cb] w fun v w'=>v=.bool (zJ9 zV5 a b)∧Chg [] w w':=by
 refine zB [_,_] func44 rfl ntmps44 rfl ?_;have st:=St.init w [];obtain⟨w0,rfl⟩:∃ w0,w0=w:=⟨_,rfl⟩
 refine a9 ?_;refine vy (zB1 rfl qU23) ?_;refine a1 ?_;refine vy (zB1 rfl qU23) ?_;refine a3 ?_;refine vif ?_ ?_;intro hc10;(try simp only [dn] at hc10);refine a7 ?_;refine vr1 st results44 ?_;refine⟨?_,st.chg⟩;rw [zV2 (by omega)];intro hc10;(try simp only [dn] at hc10);have hlen:a.length=b.length:=by omega
 refine a6 ?_;refine vy (zB1 rfl qU23) ?_;refine a4 ?_;refine zC (w0:=w0) (M:=[]) (fun (j:Nat)=>[(0,.slice oa a.length ca),(1,.slice ob b.length cb),(12,.int .i64 (a.length:Int)),(13,.int .i64 (j:Int))]) (fun _=>[]) (fun j _=>j≤a.length∧∀ (i:Nat) x y,i<j→a[i]?=some x→b[i]?=some y→zV5 x y=true) (fun j=>a.length - j) 0 ⟨rfl,rfl,rfl,rfl,trivial⟩ (st.dr) ⟨by omega,fun i x y h=>by omega⟩ ?_;clear st;rintro j w ⟨hj,hall⟩ st;refine a6 ?_;refine vif ?_ ?_;intro hc14;(try simp only [dn] at hc14);obtain⟨x,hx⟩:∃ x,a[j]?=some x:=⟨_,List.getElem?_eq_getElem (by omega)⟩
 obtain⟨y,hy⟩:∃ y,b[j]?=some y:=⟨_,List.getElem?_eq_getElem (by omega)⟩
 obtain⟨gb,go,rfl,hgS,hgl,hg⟩:=DcRow.at hA (by omega);obtain⟨fb,fo,rfl,hfS,hfl,hf⟩:=DcRow.at hB (by omega);have hc:=hg j x hx;have hd:=hf j y hy;refine a11 ?_;refine qJ5 Tryz.mixed [Yt 0,Yt 1,Yt 2,Yt 3,Yt 4,Yt 5,Yt 6,Yt 7,Yt 8,Yt 9,Yt 10,Yt 11,Yt 12,Yt 13,Yt 14,Yt 15,Yt 16,Yt 17,Yt 18,Yt 19,Yt 20,Yt 21,Yt 22,Yt 23] st ?_;clear st;intro w st hS;(iterate 2 refine pm hS ?_);refine zA2 rfl rfl rfl hS (fun w st=>zM3 (k:=j) rfl rfl qU23 qZ63 rfl (by omega)) ?_;refine pf0 hS qU63 qZ9 ?_;refine zA2 rfl rfl rfl hS (fun w st=>zD8 rfl qA9 (st.chg.cell (hc 0 _ rfl) (by simp))) ?_;(iterate 2 refine pm hS ?_);refine zA2 rfl rfl rfl hS (fun w st=>zM3 (k:=j) rfl rfl qU23 qZ63 rfl (by omega)) ?_;refine pf0 hS qU63 qZ9 ?_;refine zA2 rfl rfl rfl hS (fun w st=>zD8 rfl qA9 (st.chg.cell (hd 0 _ rfl) (by simp))) ?_;refine zA2 rfl rfl rfl hS (fun w st=>zY4 rfl rfl) ?_;refine zL4 rfl rfl rfl hS rfl ?_ ?_;intro hg27;(try simp only [dn] at hg27);(iterate 11 refine zF5 rfl rfl rfl hS ?_);refine zA2 rfl rfl rfl hS (fun w st=>zJ0 rfl rfl) ?_;refine zC6 (zA6 ?_);refine a12 ?_;refine vr1 st results44 ?_;refine⟨?_,st.chg⟩;rw [zL hx hy (by unfold zV5;simp_all)];intro hg27;(try simp only [dn] at hg27);(iterate 2 refine pm hS ?_);refine zA2 rfl rfl rfl hS (fun w st=>zM3 (k:=j) rfl rfl qU23 qZ63 rfl (by omega)) ?_;refine zA2 rfl rfl rfl hS (fun w st=>zU9 (k:=1) rfl qU63 rfl rfl qZ2 rfl) ?_;refine zA2 rfl rfl rfl hS (fun w st=>zD8 rfl qA2 (st.chg.cell (hc 1 _ rfl) (by simp))) ?_;(iterate 2 refine pm hS ?_);refine zA2 rfl rfl rfl hS (fun w st=>zM3 (k:=j) rfl rfl qU23 qZ63 rfl (by omega)) ?_;refine zA2 rfl rfl rfl hS (fun w st=>zU9 (k:=1) rfl qU63 rfl rfl qZ2 rfl) ?_;refine zA2 rfl rfl rfl hS (fun w st=>zD8 rfl qA2 (st.chg.cell (hd 1 _ rfl) (by simp))) ?_;refine zA2 rfl rfl rfl hS (fun w st=>zR rfl rfl) ?_;refine zA2 rfl rfl rfl hS (fun w st=>zN rfl rfl) ?_;refine zC6 (zA6 ?_);refine vif ?_ ?_;intro hc39;(try simp only [dn] at hc39);refine a11 ?_;refine vr1 st results44 ?_;refine⟨?_,st.chg⟩;rw [zL hx hy (by unfold zV5;simp_all)];intro hc39;(try simp only [dn] at hc39);refine a4 ?_;refine vy (yin ((j+1:Nat):Int)) ?_;refine a2 ?_;refine zA7 (j+1)  ⟨rfl,rfl,rfl,rfl,trivial⟩ (st.dr) ?_ ?_
 exact⟨by omega,fun i x' y' hi h1 h2=>by
   rcases (by omega:i<j∨i=j) with h|rfl
   · exact hall i x' y' h h1 h2
   · rw [hx] at h1;rw [hy] at h2;cases h1;cases h2;(unfold zV5;simp_all)⟩
 omega;intro hc14;(try simp only [dn] at hc14);refine a11 ?_;refine vr1 st results44 ?_;refine⟨?_,st.chg⟩;rw [zT0 hlen fun i x y hi h1 h2=>hall i x y (by omega) h1 h2]
theorem qC8 (a b:List Dc) (oa ob:Option Addr) (ca cb:Nat) (w:World) (hA:DcRow w S oa a) (hB:DcRow w S ob b) (hn:a.length≤1099511627776) :
    Ret Tryz.prog 42 [.slice oa a.length ca,.slice ob b.length cb] w fun v w'=>v=.bool (zJ9 eqD a b)∧Chg [] w w':=by
 refine zB [_,_] func42 rfl ntmps42 rfl ?_;have st:=St.init w [];obtain⟨w0,rfl⟩:∃ w0,w0=w:=⟨_,rfl⟩
 refine a9 ?_;refine vy (zB1 rfl qU23) ?_;refine a1 ?_;refine vy (zB1 rfl qU23) ?_;refine a3 ?_;refine vif ?_ ?_;intro hc10;(try simp only [dn] at hc10);refine a7 ?_;refine vr1 st results42 ?_;refine⟨?_,st.chg⟩;rw [zV2 (by omega)];intro hc10;(try simp only [dn] at hc10);have hlen:a.length=b.length:=by omega
 refine a6 ?_;refine vy (zB1 rfl qU23) ?_;refine a4 ?_;refine zC (w0:=w0) (M:=[]) (fun (j:Nat)=>[(0,.slice oa a.length ca),(1,.slice ob b.length cb),(12,.int .i64 (a.length:Int)),(13,.int .i64 (j:Int))]) (fun _=>[]) (fun j _=>j≤a.length∧∀ (i:Nat) x y,i<j→a[i]?=some x→b[i]?=some y→eqD x y=true) (fun j=>a.length - j) 0 ⟨rfl,rfl,rfl,rfl,trivial⟩ (st.dr) ⟨by omega,fun i x y h=>by omega⟩ ?_;clear st;rintro j w ⟨hj,hall⟩ st;refine a6 ?_;refine vif ?_ ?_;intro hc14;(try simp only [dn] at hc14);obtain⟨x,hx⟩:∃ x,a[j]?=some x:=⟨_,List.getElem?_eq_getElem (by omega)⟩
 obtain⟨y,hy⟩:∃ y,b[j]?=some y:=⟨_,List.getElem?_eq_getElem (by omega)⟩
 obtain⟨gb,go,rfl,hgS,hgl,hg⟩:=DcRow.at hA (by omega);obtain⟨fb,fo,rfl,hfS,hfl,hf⟩:=DcRow.at hB (by omega);have hc:=hg j x hx;have hd:=hf j y hy;refine a11 ?_;refine qJ5 Tryz.mixed [Yt 0,Yt 1,Yt 2,Yt 3,Yt 4,Yt 5,Yt 6,Yt 7,Yt 8] st ?_;clear st;intro w st hS;(iterate 2 refine pm hS ?_);refine zA2 rfl rfl rfl hS (fun w st=>zM3 (k:=j) rfl rfl qU23 qZ63 rfl (by omega)) ?_;refine zA2 rfl rfl rfl hS (fun w st=>zE6 (dcL x) rfl qA63 qZ63 rfl (fun i v hi=>st.chg.cell (hc i v hi) (by simp))) ?_;(iterate 2 refine pm hS ?_);refine zA2 rfl rfl rfl hS (fun w st=>zM3 (k:=j) rfl rfl qU23 qZ63 rfl (by omega)) ?_;refine zA2 rfl rfl rfl hS (fun w st=>zE6 (dcL y) rfl qA63 qZ63 rfl (fun i v hi=>st.chg.cell (hd i v hi) (by simp))) ?_;refine zA2 rfl rfl rfl hS (fun w st=>y_neD (p:=x) (q:=y) rfl rfl) ?_;refine zC6 (zA6 ?_);refine vif ?_ ?_;intro hc24;(try simp only [dn] at hc24);refine a11 ?_;refine vr1 st results42 ?_;refine⟨?_,st.chg⟩;rw [zL hx hy (by simp_all)];intro hc24;(try simp only [dn] at hc24);refine a4 ?_;refine vy (yin ((j+1:Nat):Int)) ?_;refine a2 ?_;refine zA7 (j+1)  ⟨rfl,rfl,rfl,rfl,trivial⟩ (st.dr) ?_ ?_
 exact⟨by omega,fun i x' y' hi h1 h2=>by
   rcases (by omega:i<j∨i=j) with h|rfl
   · exact hall i x' y' h h1 h2
   · rw [hx] at h1;rw [hy] at h2;cases h1;cases h2;(simp_all)⟩
 omega;intro hc14;(try simp only [dn] at hc14);refine a11 ?_;refine vr1 st results42 ?_;refine⟨?_,st.chg⟩;rw [zT0 hlen fun i x y hi h1 h2=>hall i x y (by omega) h1 h2]
theorem kB3 (e y:Ex) (o o':Option Addr) (c c':Nat) (w:World) (hr:ExRow w S o e.kids) (hr':ExRow w S o' y.kids)
    (hrec:∀ w,ExRow w S o e.kids→ExRow w S o' y.kids→Ret Tryz.prog 51 [.slice o e.kids.length c,.slice o' y.kids.length c'] w fun v w'=>v=.bool (zJ9 qG e.kids y.kids)∧Chg [] w w') :
  Ret Tryz.prog 17 [.agg (exL e o c).toArray,.agg (exL y o' c').toArray] w fun v w'=>v=.bool (qG e y)∧Chg [] w w':=by
 refine zB [_,_] func17 rfl ntmps17 rfl ?_;have st:=St.init w [];obtain⟨w0,rfl⟩:∃ w0,w0=w:=⟨_,rfl⟩
 refine a2 ?_;refine zA3 (zT2 (l:=[_,_,_,_,_,_]) st rfl rfl rfl rfl ?_);intro b2 w hb2 st;refine zA3 (zT2 (l:=[_,_,_,_,_,_]) st rfl rfl rfl rfl ?_);intro b3 w hb3 st;refine a6 ?_;refine vy (zC3 rfl qU42 rfl rfl qZ38 rfl) ?_;refine yl st 1 qA38 ?_;refine vy (zC3 rfl qU42 rfl rfl qZ38 rfl) ?_;refine yl st 0 qA38 ?_;refine a1 ?_;refine vmb ?_ ?_;intro hg10;refine a16 ?_;refine a14 ?_
 rotate_left
 focus
  intro hg10;refine yfz 1 qU42 qZ39 ?_;refine yl st 1 qA39 ?_;refine yfz 1 qU42 qZ39 ?_;refine yl st 0 qA39 ?_;refine a2 ?_;refine vmb ?_ ?_;intro hg17;refine a16 ?_;refine a7 ?_
  rotate_left
  focus
   intro hg17;refine yfz 2 qU42 qZ2 ?_;refine yl st 1 qA2 ?_;refine yfz 2 qU42 qZ2 ?_;refine yl st 0 qA2 ?_;refine a2 ?_;refine vmb ?_ ?_;intro hg24;refine a16 ?_
   rotate_left
   focus
    intro hg24;refine yfz 3 qU42 qZ9 ?_;refine yl st 1 qA9 ?_;refine yfz 3 qU42 qZ9 ?_;refine yl st 0 qA9 ?_;refine a4 ?_;refine vif ?_ ?_;intro hc30;refine a7 ?_
    rotate_left
    intro hc30;refine a4 ?_;refine yfz 4 qU42 qZ40 ?_;refine yl st 1 qA40 ?_;refine yfz 4 qU42 qZ40 ?_;refine yl st 0 qA40 ?_;refine zA3 (zA1 [_,_] rfl rfl call51 rfl (hrec _ (hr.kept st.sm) (hr'.kept st.sm)) ?_);rintro _ w ⟨rfl,cw⟩;replace st:=st.call0 cw;refine a4 ?_
 all_goals
  refine vr1 st results17 ?_;refine⟨?_,st.chg⟩;rw [qC5]
  first
   | (rw [show decide (e.k=y.k∧e.op=y.op∧e.wd=y.wd∧e.nm=y.nm)=false from by
       simp only [decide_eq_false_iff_not]
       rintro ⟨q1,q2,q3,q4⟩
       simp_all]
      rfl)
   | (rw [show decide (e.k=y.k∧e.op=y.op∧e.wd=y.wd∧e.nm=y.nm)=true from by simp_all,Bool.true_and])
theorem gR7:∀ (n:Nat) (a:List Ex),szo a=n→gO2 a→∀ (b:List Ex) (oa ob:Option Addr) (ca cb:Nat) (w:World),ExRow w S oa a→ExRow w S ob b→
    Ret Tryz.prog 51 [.slice oa a.length ca,.slice ob b.length cb] w fun v w'=>v=.bool (zJ9 qG a b)∧Chg [] w w':=by
 intro n;refine Nat.strongRecOn n fun n ih=>?_
 intro a hn hok b oa ob ca cb w hA hB;subst hn;have hn:=hok.1;refine zB [_,_] func51 rfl ntmps51 rfl ?_;have st:=St.init w [];obtain⟨w0,rfl⟩:∃ w0,w0=w:=⟨_,rfl⟩
 refine a9 ?_;refine vy (zB1 rfl qU40) ?_;refine a1 ?_;refine vy (zB1 rfl qU40) ?_;refine a3 ?_;refine vif ?_ ?_;intro hc10;(try simp only [dn] at hc10);refine a7 ?_;refine vr1 st results51 ?_;refine⟨?_,st.chg⟩;rw [zV2 (by omega)];intro hc10;(try simp only [dn] at hc10);have hlen:a.length=b.length:=by omega
 refine a6 ?_;refine vy (zB1 rfl qU40) ?_;refine a4 ?_;refine zC (w0:=w0) (M:=[]) (fun (j:Nat)=>[(0,.slice oa a.length ca),(1,.slice ob b.length cb),(12,.int .i64 (a.length:Int)),(13,.int .i64 (j:Int))]) (fun _=>[]) (fun j _=>j≤a.length∧∀ (i:Nat) x y,i<j→a[i]?=some x→b[i]?=some y→qG x y=true) (fun j=>a.length - j) 0 ⟨rfl,rfl,rfl,rfl,trivial⟩ (st.dr) ⟨by omega,fun i x y h=>by omega⟩ ?_;clear st;rintro j w ⟨hj,hall⟩ st;refine a6 ?_;refine vif ?_ ?_;intro hc14;(try simp only [dn] at hc14);obtain⟨x,hx⟩:∃ x,a[j]?=some x:=⟨_,List.getElem?_eq_getElem (by omega)⟩
 obtain⟨y,hy⟩:∃ y,b[j]?=some y:=⟨_,List.getElem?_eq_getElem (by omega)⟩
 obtain⟨gb,go,rfl,hgS,hgl,hg⟩:=ExRow.at hA (by omega);obtain⟨fb,fo,rfl,hfS,hfl,hf⟩:=ExRow.at hB (by omega);obtain⟨o0,c0,hV0,hr0,hc⟩:=hg j x hx;obtain⟨o1,c1,hV1,hr1,hd⟩:=hf j y hy;have hkx:=hok.2 j x hx;have hz:=zF2 hx;have hz2:szo x.kids<szo a:=by have:=zL1 x;omega
 refine a11 ?_;refine qJ5 Tryz.mixed [Yt 0,Yt 1,Yt 2,Yt 3,Yt 4,Yt 5,Yt 6,Yt 7,Nt 8,Yt 9] st ?_;clear st;intro w st hS;(iterate 2 refine pm hS ?_);refine zA2 rfl rfl rfl hS (fun w st=>zM3 (k:=j) rfl rfl qU40 qZ42 rfl (by omega)) ?_;refine zA2 rfl rfl rfl hS (fun w st=>zE6 (exL x o0 c0) rfl qA42 qZ42 rfl (fun i v hi=>st.chg.cell (hc i v hi) (by simp))) ?_;(iterate 2 refine pm hS ?_);refine zA2 rfl rfl rfl hS (fun w st=>zM3 (k:=j) rfl rfl qU40 qZ42 rfl (by omega)) ?_;refine zA2 rfl rfl rfl hS (fun w st=>zE6 (exL y o1 c1) rfl qA42 qZ42 rfl (fun i v hi=>st.chg.cell (hd i v hi) (by simp))) ?_;refine zD0 rfl (zA1 [_,_] rfl rfl call17 rfl (kB3 x y o0 o1 c0 c1 _ (hr0.kept st.sm) (hr1.kept st.sm) (fun w h1 h2=>ih _ hz2 x.kids rfl hkx.kids y.kids _ _ _ _ w h1 h2)) ?_);rintro _ w ⟨rfl,cw⟩;replace st:=st.call0 cw;refine zA9 (by exact st) ?_;intro hS;refine zA2 rfl rfl rfl hS (fun w st=>zG5 rfl) ?_;refine zC6 (zA6 ?_);refine vif ?_ ?_;intro hc25;(try simp only [dn] at hc25);refine a11 ?_;refine vr1 st results51 ?_;refine⟨?_,st.chg⟩;rw [zL hx hy (by assumption)];intro hc25;(try simp only [dn] at hc25);refine a4 ?_;refine vy (yin ((j+1:Nat):Int)) ?_;refine a2 ?_;refine zA7 (j+1)  ⟨rfl,rfl,rfl,rfl,trivial⟩ (st.dr) ?_ ?_
 exact⟨by omega,fun i x' y' hi h1 h2=>by
   rcases (by omega:i<j∨i=j) with h|rfl
   · exact hall i x' y' h h1 h2
   · rw [hx] at h1;rw [hy] at h2;cases h1;cases h2;assumption⟩
 omega;intro hc14;(try simp only [dn] at hc14);refine a11 ?_;refine vr1 st results51 ?_;refine⟨?_,st.chg⟩;rw [zT0 hlen fun i x y hi h1 h2=>hall i x y (by omega) h1 h2]
theorem gQ1:∀ (n:Nat) (a:List Ex),szo a=n→gO2 a→∀ (b:List Ex) (oa ob:Option Addr) (ca cb:Nat) (w:World),ExRow w S oa a→ExRow w S ob b→
    Ret Tryz.prog 102 [.slice oa a.length ca,.slice ob b.length cb] w fun v w'=>v=.bool (zJ9 plE a b)∧Chg [] w w':=by
 intro n;refine Nat.strongRecOn n fun n ih=>?_
 intro a hn hok b oa ob ca cb w hA hB;subst hn;have hn:=hok.1;refine zB [_,_] func102 rfl ntmps102 rfl ?_;have st:=St.init w [];obtain⟨w0,rfl⟩:∃ w0,w0=w:=⟨_,rfl⟩
 refine a9 ?_;refine vy (zB1 rfl qU40) ?_;refine a1 ?_;refine vy (zB1 rfl qU40) ?_;refine a3 ?_;refine vif ?_ ?_;intro hc10;(try simp only [dn] at hc10);refine a7 ?_;refine vr1 st results102 ?_;refine⟨?_,st.chg⟩;rw [zV2 (by omega)];intro hc10;(try simp only [dn] at hc10);have hlen:a.length=b.length:=by omega
 refine a6 ?_;refine vy (zB1 rfl qU40) ?_;refine a4 ?_;refine zC (w0:=w0) (M:=[]) (fun (j:Nat)=>[(0,.slice oa a.length ca),(1,.slice ob b.length cb),(12,.int .i64 (a.length:Int)),(13,.int .i64 (j:Int))]) (fun _=>[]) (fun j _=>j≤a.length∧∀ (i:Nat) x y,i<j→a[i]?=some x→b[i]?=some y→plE x y=true) (fun j=>a.length - j) 0 ⟨rfl,rfl,rfl,rfl,trivial⟩ (st.dr) ⟨by omega,fun i x y h=>by omega⟩ ?_;clear st;rintro j w ⟨hj,hall⟩ st;refine a6 ?_;refine vif ?_ ?_;intro hc14;(try simp only [dn] at hc14);obtain⟨x,hx⟩:∃ x,a[j]?=some x:=⟨_,List.getElem?_eq_getElem (by omega)⟩
 obtain⟨y,hy⟩:∃ y,b[j]?=some y:=⟨_,List.getElem?_eq_getElem (by omega)⟩
 obtain⟨gb,go,rfl,hgS,hgl,hg⟩:=ExRow.at hA (by omega);obtain⟨fb,fo,rfl,hfS,hfl,hf⟩:=ExRow.at hB (by omega);obtain⟨o0,c0,hV0,hr0,hc⟩:=hg j x hx;obtain⟨o1,c1,hV1,hr1,hd⟩:=hf j y hy;have hkx:=hok.2 j x hx;have hz:=zF2 hx;have hz2:szo x.kids<szo a:=by have:=zL1 x;omega
 refine a11 ?_;refine qJ5 Tryz.mixed [Yt 0,Yt 1,Yt 2,Yt 3,Yt 4,Yt 5,Yt 6,Yt 7,Yt 8,Yt 9,Yt 10,Yt 11,Yt 12,Yt 13,Yt 14,Yt 15,Yt 16,Yt 17,Yt 18,Yt 19,Yt 20,Yt 21,Nt 22,Yt 23,Yt 24] st ?_;clear st;intro w st hS;(iterate 2 refine pm hS ?_);refine zA2 rfl rfl rfl hS (fun w st=>zM3 (k:=j) rfl rfl qU40 qZ42 rfl (by omega)) ?_;refine zA2 rfl rfl rfl hS (fun w st=>zU9 (k:=5) rfl qU42 rfl rfl qZ3 rfl) ?_;refine zA2 rfl rfl rfl hS (fun w st=>zD8 rfl qA3 (st.chg.cell (hc 5 _ rfl) (by simp))) ?_;(iterate 2 refine pm hS ?_);refine zA2 rfl rfl rfl hS (fun w st=>zM3 (k:=j) rfl rfl qU40 qZ42 rfl (by omega)) ?_;refine zA2 rfl rfl rfl hS (fun w st=>zU9 (k:=5) rfl qU42 rfl rfl qZ3 rfl) ?_;refine zA2 rfl rfl rfl hS (fun w st=>zD8 rfl qA3 (st.chg.cell (hd 5 _ rfl) (by simp))) ?_;refine zA2 rfl rfl rfl hS (fun w st=>zR rfl rfl) ?_;refine zL4 rfl rfl rfl hS rfl ?_ ?_;intro hg27;(try simp only [dn] at hg27);(iterate 10 refine zF5 rfl rfl rfl hS ?_);refine zD0 rfl (zO6 rfl rfl (zA9 hS (fun hS=>?_)));refine zF5 rfl rfl rfl hS ?_;refine zA2 rfl rfl rfl hS (fun w st=>zJ0 rfl rfl) ?_;refine zC6 (zA6 ?_);refine a12 ?_;refine vr1 st results102 ?_;refine⟨?_,st.chg⟩;rw [zL hx hy (by rw [gX0];simp_all)];intro hg27;(try simp only [dn] at hg27);(iterate 2 refine pm hS ?_);refine zA2 rfl rfl rfl hS (fun w st=>zM3 (k:=j) rfl rfl qU40 qZ42 rfl (by omega)) ?_;refine zA2 rfl rfl rfl hS (fun w st=>zU9 (k:=4) rfl qU42 rfl rfl qZ40 rfl) ?_;refine zA2 rfl rfl rfl hS (fun w st=>zD8 rfl qA40 (st.chg.cell (hc 4 _ rfl) (by simp))) ?_;(iterate 2 refine pm hS ?_);refine zA2 rfl rfl rfl hS (fun w st=>zM3 (k:=j) rfl rfl qU40 qZ42 rfl (by omega)) ?_;refine zA2 rfl rfl rfl hS (fun w st=>zU9 (k:=4) rfl qU42 rfl rfl qZ40 rfl) ?_;refine zA2 rfl rfl rfl hS (fun w st=>zD8 rfl qA40 (st.chg.cell (hd 4 _ rfl) (by simp))) ?_;refine zD0 rfl (zA1 [_,_] rfl rfl call102 rfl (ih _ hz2 x.kids rfl hkx.kids y.kids _ _ _ _ _ (hr0.kept st.sm) (hr1.kept st.sm)) ?_);rintro _ w ⟨rfl,cw⟩;replace st:=st.call0 cw;refine zA9 (by exact st) ?_;intro hS;refine zA2 rfl rfl rfl hS (fun w st=>zG5 rfl) ?_;refine zA2 rfl rfl rfl hS (fun w st=>zN rfl rfl) ?_;refine zC6 (zA6 ?_);refine vif ?_ ?_;intro hc40;(try simp only [dn] at hc40);refine a11 ?_;refine vr1 st results102 ?_;refine⟨?_,st.chg⟩;rw [zL hx hy (by rw [gX0];simp_all)];intro hc40;(try simp only [dn] at hc40);refine a4 ?_;refine vy (yin ((j+1:Nat):Int)) ?_;refine a2 ?_;refine zA7 (j+1)  ⟨rfl,rfl,rfl,rfl,trivial⟩ (st.dr) ?_ ?_
 exact⟨by omega,fun i x' y' hi h1 h2=>by
   rcases (by omega:i<j∨i=j) with h|rfl
   · exact hall i x' y' h h1 h2
   · rw [hx] at h1;rw [hy] at h2;cases h1;cases h2;(rw [gX0];simp_all)⟩
 omega;intro hc14;(try simp only [dn] at hc14);refine a11 ?_;refine vr1 st results102 ?_;refine⟨?_,st.chg⟩;rw [zT0 hlen fun i x y hi h1 h2=>hall i x y (by omega) h1 h2]
set_option maxHeartbeats 1000000 in
theorem gP2:∀ (n:Nat) (a:List Sm),szo a=n→qO a→∀ (b:List Sm) (oa ob:Option Addr) (ca cb:Nat) (w:World),SmRow w S oa a→SmRow w S ob b→
    Ret Tryz.prog 45 [.slice oa a.length ca,.slice ob b.length cb] w fun v w'=>v=.bool (zJ9 qE4 a b)∧Chg [] w w':=by
 intro n;refine Nat.strongRecOn n fun n ih=>?_
 intro a hn hok b oa ob ca cb w hA hB;subst hn;have hn:=hok.1;refine zB [_,_] func45 rfl ntmps45 rfl ?_;have st:=St.init w [];obtain⟨w0,rfl⟩:∃ w0,w0=w:=⟨_,rfl⟩
 refine a9 ?_;refine vy (zB1 rfl qU65) ?_;refine a1 ?_;refine vy (zB1 rfl qU65) ?_;refine a3 ?_;refine vif ?_ ?_;intro hc12;(try simp only [dn] at hc12);refine a7 ?_;refine vr1 st results45 ?_;refine⟨?_,st.chg⟩;rw [zV2 (by omega)];intro hc12;(try simp only [dn] at hc12);have hlen:a.length=b.length:=by omega
 refine a6 ?_;refine vy (zB1 rfl qU65) ?_;refine a4 ?_;refine zC (w0:=w0) (M:=[]) (fun (j:Nat)=>[(0,.slice oa a.length ca),(1,.slice ob b.length cb),(14,.int .i64 (a.length:Int)),(15,.int .i64 (j:Int))]) (fun _=>[]) (fun j _=>j≤a.length∧∀ (i:Nat) x y,i<j→a[i]?=some x→b[i]?=some y→qE4 x y=true) (fun j=>a.length - j) 0 ⟨rfl,rfl,rfl,rfl,trivial⟩ (st.dr) ⟨by omega,fun i x y h=>by omega⟩ ?_;clear st;rintro j w ⟨hj,hall⟩ st;refine a6 ?_;refine vif ?_ ?_;intro hc16;(try simp only [dn] at hc16);obtain⟨x,hx⟩:∃ x,a[j]?=some x:=⟨_,List.getElem?_eq_getElem (by omega)⟩
 obtain⟨y,hy⟩:∃ y,b[j]?=some y:=⟨_,List.getElem?_eq_getElem (by omega)⟩
 obtain⟨gb,go,rfl,hgS,hgl,hg⟩:=SmRow.at hA (by omega);obtain⟨fb,fo,rfl,hfS,hfl,hf⟩:=SmRow.at hB (by omega);obtain⟨oe,obb,ol,ce,cbb,cl,hsV,hse,hsb,hsl,hc⟩:=hg j x hx;obtain⟨oe',obb',ol',ce',cbb',cl',hsV',hse',hsb',hsl',hd⟩:=hf j y hy;have hkx:=hok.2 j x hx;have hz:=zF2 hx
 have hB2 : szo x.body < szo a := by have : szo x.body < szo x := by cases x; exact sm_size.1
                                     omega
 have hL2 : szo x.els < szo a := by have : szo x.els < szo x := by cases x; exact sm_size.2
                                    omega
 refine a10 ?_;refine zL2 (w0:=w0) (M:=[]) (fun (z:Nat×Nat)=>[(0,.slice (some ⟨gb,go,none⟩) a.length ca),(1,.slice (some ⟨fb,fo,none⟩) b.length cb),(6,.pointer (some ⟨z.1,0,none⟩)),(7,.pointer (some ⟨z.2,0,none⟩)),(14,.int .i64 (a.length:Int)),(15,.int .i64 (j:Int))]) (fun z=>[.blk z.1 (.cells [.int .u8 x.k,str x.nm,str x.other,.slice oe x.e.length ce,.slice obb x.body.length cbb,.slice ol x.els.length cl,.int .i64 x.a].toArray 67 (0,0)),.blk z.2 (.cells [.int .u8 y.k,str y.nm,str y.other,.slice oe' y.e.length ce',.slice obb' y.body.length cbb',.slice ol' y.els.length cl',.int .i64 y.a].toArray 67 (0,0))]) (fun _ _=>True) ?_ ?_;refine jJ1 Tryz.mixed (.take 0 (.take 1 (.take 2 (.take 3 (.take 4 (.take 5 (.take 6 (.take 7 (.two 8 9 (.one 9 (.one 10 (.one 11 .done))) (.one 8 (.one 10 (.one 11 .done)))))))))))) st ?_;clear st;intro w st hS;(iterate 2 refine dm hS ?_);refine zD9 rfl rfl rfl hS (fun w st=>zM3 (k:=j) rfl rfl qU65 qZ67 rfl (by omega)) ?_;refine zD9 rfl rfl rfl hS (fun w st=>zE6 (smL x oe obb ol ce cbb cl) rfl qA67 qZ67 rfl (fun i v hi=>st.chg.cell (hc i v hi) (by simp))) ?_;(iterate 2 refine dm hS ?_);refine zD9 rfl rfl rfl hS (fun w st=>zM3 (k:=j) rfl rfl qU65 qZ67 rfl (by omega)) ?_;refine zD9 rfl rfl rfl hS (fun w st=>zE6 (smL y oe' obb' ol' ce' cbb' cl') rfl qA67 qZ67 rfl (fun i v hi=>st.chg.cell (hd i v hi) (by simp))) ?_;refine zU1 rfl rfl ?_ ?_;refine(zF8 (l:=[_,_,_,_,_,_,_]) st rfl rfl qV67 rfl ?_);intro b6 w hb6 st;refine zB2 st.dr ?_;intro hS;refine zG rfl (zF8 (l:=[_,_,_,_,_,_,_]) st rfl rfl qV67 rfl ?_);intro b7 w hb7 st;refine zB2 st.dr ?_;intro hS;refine zG rfl (zC4 st 1 [_,_,_,_,_,_,_] qZ67 ?_);intro w st;dsimp only [zA0,wr] at st;refine zB2 st.dr ?_;intro hS;refine zG rfl (zC4 st 0 [_,_,_,_,_,_,_] qZ67 ?_);intro w st;dsimp only [zA0,wr] at st;refine zB2 st.dr ?_;intro hS;refine zV ?_;refine zB8 (b6,b7) ⟨rfl,rfl,rfl,rfl,rfl,rfl,trivial⟩ (st.pick [1,0] rfl (by decide)) ?_;trivial;refine(zF8 (l:=[_,_,_,_,_,_,_]) st rfl rfl qV67 rfl ?_);intro b7 w hb7 st;refine zB2 st.dr ?_;intro hS;refine zG rfl (zF8 (l:=[_,_,_,_,_,_,_]) st rfl rfl qV67 rfl ?_);intro b6 w hb6 st;refine zB2 st.dr ?_;intro hS;refine zG rfl (zC4 st 0 [_,_,_,_,_,_,_] qZ67 ?_);intro w st;dsimp only [zA0,wr] at st;refine zB2 st.dr ?_;intro hS;refine zG rfl (zC4 st 1 [_,_,_,_,_,_,_] qZ67 ?_);intro w st;dsimp only [zA0,wr] at st;refine zB2 st.dr ?_;intro hS;refine zV ?_;refine zB8 (b6,b7) ⟨rfl,rfl,rfl,rfl,rfl,rfl,trivial⟩ st ?_;trivial;clear st;rintro ⟨b6,b7⟩ w - st;dsimp only at *;refine a2 ?_;refine vy (zC3 rfl qU67 rfl rfl qZ64 rfl) ?_;refine yl st 0 qA64 ?_
 refine vy (zC3 rfl qU67 rfl rfl qZ64 rfl) ?_;refine yl st 1 qA64 ?_;refine a1 ?_;refine vmb ?_ ?_;intro hg31;(try simp only [dn] at hg31);refine a16 ?_;refine a16 ?_;refine a16 ?_;refine a3 ?_;refine vr1 st results45 ?_;refine⟨?_,st.chg⟩;rw [zL hx hy (by rw [zL6];clear st;simp_all)];intro hg31;(try simp only [dn] at hg31);refine yfz 1 qU67 qZ9 ?_;refine yl st 0 qA9 ?_;refine yfz 1 qU67 qZ9 ?_;refine yl st 1 qA9 ?_;refine a2 ?_;refine vmb ?_ ?_;intro hg38;(try simp only [dn] at hg38);refine a16 ?_;refine a16 ?_;refine a12 ?_;refine vr1 st results45 ?_;refine⟨?_,st.chg⟩;rw [zL hx hy (by rw [zL6];clear st;simp_all)];intro hg38;(try simp only [dn] at hg38);refine yfz 2 qU67 qZ9 ?_;refine yl st 0 qA9 ?_;refine yfz 2 qU67 qZ9 ?_;refine yl st 1 qA9 ?_;refine a2 ?_;refine vmb ?_ ?_;intro hg45;(try simp only [dn] at hg45);refine a16 ?_;refine a16 ?_;refine a5 ?_;refine vr1 st results45 ?_;refine⟨?_,st.chg⟩;rw [zL hx hy (by rw [zL6];clear st;simp_all)];intro hg45;(try simp only [dn] at hg45);refine yfz 3 qU67 qZ40 ?_;refine yl st 0 qA40 ?_;refine yfz 3 qU67 qZ40 ?_;refine yl st 1 qA40 ?_;refine zA3 (zA1 [_,_] rfl rfl call51 rfl (gR7 _ x.e rfl hkx.e y.e _ _ _ _ _ (hse.kept st.sm) (hse'.kept st.sm)) ?_);rintro _ w ⟨rfl,cw⟩;replace st:=st.call0 cw;refine a2 ?_;refine vmb ?_ ?_;intro hg53;(try simp only [dn] at hg53);refine a16 ?_;refine a13 ?_;refine vr1 st results45 ?_;refine⟨?_,st.chg⟩;rw [zL hx hy (by rw [zL6];clear st;simp_all)];intro hg53;(try simp only [dn] at hg53);refine yfz 4 qU67 qZ65 ?_;refine yl st 0 qA65 ?_;refine yfz 4 qU67 qZ65 ?_;refine yl st 1 qA65 ?_;refine zA3 (zA1 [_,_] rfl rfl call45 rfl (ih _ hB2 x.body rfl hkx.body y.body _ _ _ _ _ (hsb.kept st.sm) (hsb'.kept st.sm)) ?_);rintro _ w ⟨rfl,cw⟩;replace st:=st.call0 cw;refine a2 ?_;refine vmb ?_ ?_;intro hg61;(try simp only [dn] at hg61);refine a16 ?_;refine a5 ?_;refine vr1 st results45 ?_;refine⟨?_,st.chg⟩;rw [zL hx hy (by rw [zL6];clear st;simp_all)];intro hg61;(try simp only [dn] at hg61);refine yfz 5 qU67 qZ65 ?_;refine yl st 0 qA65 ?_;refine yfz 5 qU67 qZ65 ?_;refine yl st 1 qA65 ?_;refine zA3 (zA1 [_,_] rfl rfl call45 rfl (ih _ hL2 x.els rfl hkx.els y.els _ _ _ _ _ (hsl.kept st.sm) (hsl'.kept st.sm)) ?_);rintro _ w ⟨rfl,cw⟩;replace st:=st.call0 cw;refine a4 ?_;refine vif ?_ ?_;intro hc68;(try simp only [dn] at hc68);refine a11 ?_;refine vr1 st results45 ?_;refine⟨?_,st.chg⟩;rw [zL hx hy (by rw [zL6];clear st;simp_all)];intro hc68;(try simp only [dn] at hc68);refine a4 ?_;refine vy (yin ((j+1:Nat):Int)) ?_;refine a2 ?_;refine zA7 (j+1)  ⟨rfl,rfl,rfl,rfl,trivial⟩ (st.dr) ?_ ?_
 exact⟨by omega,fun i x' y' hi h1 h2=>by
   rcases (by omega:i<j∨i=j) with h|rfl
   · exact hall i x' y' h h1 h2
   · rw [hx] at h1;rw [hy] at h2;cases h1;cases h2;(rw [zL6];clear st;simp_all)⟩
 omega;intro hc16;(try simp only [dn] at hc16);refine a11 ?_;refine vr1 st results45 ?_;refine⟨?_,st.chg⟩;rw [zT0 hlen fun i x y hi h1 h2=>hall i x y (by omega) h1 h2]
set_option maxHeartbeats 1000000 in
theorem gL9:∀ (n:Nat) (a:List Sm),szo a=n→qO a→∀ (b:List Sm) (oa ob:Option Addr) (ca cb:Nat) (w:World),SmRow w S oa a→SmRow w S ob b→
    Ret Tryz.prog 43 [.slice oa a.length ca,.slice ob b.length cb] w fun v w'=>v=.bool (zJ9 plS a b)∧Chg [] w w':=by
 intro n;refine Nat.strongRecOn n fun n ih=>?_
 intro a hn hok b oa ob ca cb w hA hB;subst hn;have hn:=hok.1;refine zB [_,_] func43 rfl ntmps43 rfl ?_;have st:=St.init w [];obtain⟨w0,rfl⟩:∃ w0,w0=w:=⟨_,rfl⟩
 refine a9 ?_;refine vy (zB1 rfl qU65) ?_;refine a1 ?_;refine vy (zB1 rfl qU65) ?_;refine a3 ?_;refine vif ?_ ?_;intro hc10;(try simp only [dn] at hc10);refine a7 ?_;refine vr1 st results43 ?_;refine⟨?_,st.chg⟩;rw [zV2 (by omega)];intro hc10;(try simp only [dn] at hc10);have hlen:a.length=b.length:=by omega
 refine a6 ?_;refine vy (zB1 rfl qU65) ?_;refine a4 ?_;refine zC (w0:=w0) (M:=[]) (fun (j:Nat)=>[(0,.slice oa a.length ca),(1,.slice ob b.length cb),(12,.int .i64 (a.length:Int)),(13,.int .i64 (j:Int))]) (fun _=>[]) (fun j _=>j≤a.length∧∀ (i:Nat) x y,i<j→a[i]?=some x→b[i]?=some y→plS x y=true) (fun j=>a.length - j) 0 ⟨rfl,rfl,rfl,rfl,trivial⟩ (st.dr) ⟨by omega,fun i x y h=>by omega⟩ ?_;clear st;rintro j w ⟨hj,hall⟩ st;refine a6 ?_;refine vif ?_ ?_;intro hc14;(try simp only [dn] at hc14);obtain⟨x,hx⟩:∃ x,a[j]?=some x:=⟨_,List.getElem?_eq_getElem (by omega)⟩
 obtain⟨y,hy⟩:∃ y,b[j]?=some y:=⟨_,List.getElem?_eq_getElem (by omega)⟩
 obtain⟨gb,go,rfl,hgS,hgl,hg⟩:=SmRow.at hA (by omega);obtain⟨fb,fo,rfl,hfS,hfl,hf⟩:=SmRow.at hB (by omega);obtain⟨oe,obb,ol,ce,cbb,cl,hsV,hse,hsb,hsl,hc⟩:=hg j x hx;obtain⟨oe',obb',ol',ce',cbb',cl',hsV',hse',hsb',hsl',hd⟩:=hf j y hy;have hkx:=hok.2 j x hx;have hz:=zF2 hx
 have hB2 : szo x.body < szo a := by have : szo x.body < szo x := by cases x; exact sm_size.1
                                     omega
 have hL2 : szo x.els < szo a := by have : szo x.els < szo x := by cases x; exact sm_size.2
                                    omega
 refine a11 ?_;refine qJ5 Tryz.mixed [Yt 0,Yt 1,Yt 2,Yt 3,Yt 4,Yt 5,Yt 6,Yt 7,Yt 8,Yt 9,Yt 10,Yt 11,Yt 12,Yt 13,Yt 14,Yt 15,Yt 16,Yt 17,Yt 18,Yt 19,Yt 20,Yt 21,Nt 22,Yt 23,Yt 24,Yt 25,Yt 26,Yt 27,Yt 28,Yt 29,Yt 30,Yt 31,Yt 32,Yt 33,Yt 34,Yt 35,Nt 36,Yt 37,Yt 38,Yt 39,Yt 40,Yt 41,Yt 42,Yt 43,Yt 44,Yt 45,Yt 46,Yt 47,Yt 48,Yt 49,Nt 50,Yt 51,Yt 52] st ?_;clear st;intro w st hS;(iterate 2 refine pm hS ?_);refine zA2 rfl rfl rfl hS (fun w st=>zM3 (k:=j) rfl rfl qU65 qZ67 rfl (by omega)) ?_;refine zA2 rfl rfl rfl hS (fun w st=>zU9 (k:=6) rfl qU67 rfl rfl qZ3 rfl) ?_;refine zA2 rfl rfl rfl hS (fun w st=>zD8 rfl qA3 (st.chg.cell (hc 6 _ rfl) (by simp))) ?_;(iterate 2 refine pm hS ?_);refine zA2 rfl rfl rfl hS (fun w st=>zM3 (k:=j) rfl rfl qU65 qZ67 rfl (by omega)) ?_;refine zA2 rfl rfl rfl hS (fun w st=>zU9 (k:=6) rfl qU67 rfl rfl qZ3 rfl) ?_;refine zA2 rfl rfl rfl hS (fun w st=>zD8 rfl qA3 (st.chg.cell (hd 6 _ rfl) (by simp))) ?_;refine zA2 rfl rfl rfl hS (fun w st=>zR rfl rfl) ?_;refine zL4 rfl rfl rfl hS rfl ?_ ?_;intro hg27;(try simp only [dn] at hg27);(iterate 10 refine zF5 rfl rfl rfl hS ?_);refine zD0 rfl (zO6 rfl rfl (zA9 hS (fun hS=>?_)));refine zF5 rfl rfl rfl hS ?_;refine zA2 rfl rfl rfl hS (fun w st=>zJ0 rfl rfl) ?_;refine pm hS ?_;(iterate 10 refine zF5 rfl rfl rfl hS ?_);refine zD0 rfl (zO6 rfl rfl (zA9 hS (fun hS=>?_)));refine zF5 rfl rfl rfl hS ?_;refine zA2 rfl rfl rfl hS (fun w st=>zJ0 rfl rfl) ?_;refine pm hS ?_;(iterate 10 refine zF5 rfl rfl rfl hS ?_);refine zD0 rfl (zO6 rfl rfl (zA9 hS (fun hS=>?_)));refine zF5 rfl rfl rfl hS ?_;refine zA2 rfl rfl rfl hS (fun w st=>zJ0 rfl rfl) ?_;refine zC6 (zA6 ?_);refine a12 ?_;refine vr1 st results43 ?_;refine⟨?_,st.chg⟩;rw [zL hx hy (by rw [gD1];clear st;simp_all)];intro hg27;(try simp only [dn] at hg27);(iterate 2 refine pm hS ?_);refine zA2 rfl rfl rfl hS (fun w st=>zM3 (k:=j) rfl rfl qU65 qZ67 rfl (by omega)) ?_;refine zA2 rfl rfl rfl hS (fun w st=>zU9 (k:=3) rfl qU67 rfl rfl qZ40 rfl) ?_;refine zA2 rfl rfl rfl hS (fun w st=>zD8 rfl qA40 (st.chg.cell (hc 3 _ rfl) (by simp))) ?_;(iterate 2 refine pm hS ?_);refine zA2 rfl rfl rfl hS (fun w st=>zM3 (k:=j) rfl rfl qU65 qZ67 rfl (by omega)) ?_;refine zA2 rfl rfl rfl hS (fun w st=>zU9 (k:=3) rfl qU67 rfl rfl qZ40 rfl) ?_;refine zA2 rfl rfl rfl hS (fun w st=>zD8 rfl qA40 (st.chg.cell (hd 3 _ rfl) (by simp))) ?_;refine zD0 rfl (zA1 [_,_] rfl rfl call102 rfl (gQ1 _ x.e rfl hkx.e y.e _ _ _ _ _ (hse.kept st.sm) (hse'.kept st.sm)) ?_);rintro _ w ⟨rfl,cw⟩;replace st:=st.call0 cw;refine zA9 (by exact st) ?_;intro hS
 refine zA2 rfl rfl rfl hS (fun w st=>zG5 rfl) ?_;refine zA2 rfl rfl rfl hS (fun w st=>zN rfl rfl) ?_;refine zL4 rfl rfl rfl hS rfl ?_ ?_;intro hg41;(try simp only [dn] at hg41);(iterate 10 refine zF5 rfl rfl rfl hS ?_);refine zD0 rfl (zO6 rfl rfl (zA9 hS (fun hS=>?_)));refine zF5 rfl rfl rfl hS ?_;refine zA2 rfl rfl rfl hS (fun w st=>zJ0 rfl rfl) ?_;refine pm hS ?_;(iterate 10 refine zF5 rfl rfl rfl hS ?_);refine zD0 rfl (zO6 rfl rfl (zA9 hS (fun hS=>?_)));refine zF5 rfl rfl rfl hS ?_;refine zA2 rfl rfl rfl hS (fun w st=>zJ0 rfl rfl) ?_;refine zC6 (zA6 ?_);refine a12 ?_;refine vr1 st results43 ?_;refine⟨?_,st.chg⟩;rw [zL hx hy (by rw [gD1];clear st;simp_all)];intro hg41;(try simp only [dn] at hg41);(iterate 2 refine pm hS ?_);refine zA2 rfl rfl rfl hS (fun w st=>zM3 (k:=j) rfl rfl qU65 qZ67 rfl (by omega)) ?_;refine zA2 rfl rfl rfl hS (fun w st=>zU9 (k:=4) rfl qU67 rfl rfl qZ65 rfl) ?_;refine zA2 rfl rfl rfl hS (fun w st=>zD8 rfl qA65 (st.chg.cell (hc 4 _ rfl) (by simp))) ?_;(iterate 2 refine pm hS ?_);refine zA2 rfl rfl rfl hS (fun w st=>zM3 (k:=j) rfl rfl qU65 qZ67 rfl (by omega)) ?_;refine zA2 rfl rfl rfl hS (fun w st=>zU9 (k:=4) rfl qU67 rfl rfl qZ65 rfl) ?_;refine zA2 rfl rfl rfl hS (fun w st=>zD8 rfl qA65 (st.chg.cell (hd 4 _ rfl) (by simp))) ?_;refine zD0 rfl (zA1 [_,_] rfl rfl call43 rfl (ih _ hB2 x.body rfl hkx.body y.body _ _ _ _ _ (hsb.kept st.sm) (hsb'.kept st.sm)) ?_);rintro _ w ⟨rfl,cw⟩;replace st:=st.call0 cw;refine zA9 (by exact st) ?_;intro hS;refine zA2 rfl rfl rfl hS (fun w st=>zG5 rfl) ?_;refine zA2 rfl rfl rfl hS (fun w st=>zN rfl rfl) ?_;refine zL4 rfl rfl rfl hS rfl ?_ ?_;intro hg55;(try simp only [dn] at hg55);(iterate 10 refine zF5 rfl rfl rfl hS ?_);refine zD0 rfl (zO6 rfl rfl (zA9 hS (fun hS=>?_)));refine zF5 rfl rfl rfl hS ?_;refine zA2 rfl rfl rfl hS (fun w st=>zJ0 rfl rfl) ?_;refine zC6 (zA6 ?_);refine a12 ?_;refine vr1 st results43 ?_;refine⟨?_,st.chg⟩;rw [zL hx hy (by rw [gD1];clear st;simp_all)];intro hg55;(try simp only [dn] at hg55);(iterate 2 refine pm hS ?_);refine zA2 rfl rfl rfl hS (fun w st=>zM3 (k:=j) rfl rfl qU65 qZ67 rfl (by omega)) ?_;refine zA2 rfl rfl rfl hS (fun w st=>zU9 (k:=5) rfl qU67 rfl rfl qZ65 rfl) ?_;refine zA2 rfl rfl rfl hS (fun w st=>zD8 rfl qA65 (st.chg.cell (hc 5 _ rfl) (by simp))) ?_;(iterate 2 refine pm hS ?_);refine zA2 rfl rfl rfl hS (fun w st=>zM3 (k:=j) rfl rfl qU65 qZ67 rfl (by omega)) ?_;refine zA2 rfl rfl rfl hS (fun w st=>zU9 (k:=5) rfl qU67 rfl rfl qZ65 rfl) ?_;refine zA2 rfl rfl rfl hS (fun w st=>zD8 rfl qA65 (st.chg.cell (hd 5 _ rfl) (by simp))) ?_
 refine zD0 rfl (zA1 [_,_] rfl rfl call43 rfl (ih _ hL2 x.els rfl hkx.els y.els _ _ _ _ _ (hsl.kept st.sm) (hsl'.kept st.sm)) ?_);rintro _ w ⟨rfl,cw⟩;replace st:=st.call0 cw;refine zA9 (by exact st) ?_;intro hS;refine zA2 rfl rfl rfl hS (fun w st=>zG5 rfl) ?_;refine zA2 rfl rfl rfl hS (fun w st=>zN rfl rfl) ?_;refine zC6 (zA6 ?_);refine vif ?_ ?_;intro hc68;(try simp only [dn] at hc68);refine a11 ?_;refine vr1 st results43 ?_;refine⟨?_,st.chg⟩;rw [zL hx hy (by rw [gD1];clear st;simp_all)];intro hc68;(try simp only [dn] at hc68);refine a4 ?_;refine vy (yin ((j+1:Nat):Int)) ?_;refine a2 ?_;refine zA7 (j+1)  ⟨rfl,rfl,rfl,rfl,trivial⟩ (st.dr) ?_ ?_
 exact⟨by omega,fun i x' y' hi h1 h2=>by
   rcases (by omega:i<j∨i=j) with h|rfl
   · exact hall i x' y' h h1 h2
   · rw [hx] at h1;rw [hy] at h2;cases h1;cases h2;(rw [gD1];clear st;simp_all)⟩
 omega;intro hc14;(try simp only [dn] at hc14);refine a11 ?_;refine vr1 st results43 ?_;refine⟨?_,st.chg⟩;rw [zT0 hlen fun i x y hi h1 h2=>hall i x y (by omega) h1 h2]
end
section
variable {S:Nat→Prop}
theorem kK5 {α β:Type} {f:α→β→Bool} {a:List α} {b:List β} (h:zJ9 f a b=true):a.length=b.length:=by
 by_cases h1:a.length=b.length
 exact h1;rw [zV2 h1] at h;cases h
theorem kO7 {p q:Pg} (h:zW8 p q=true):p.threads.length=q.threads.length:=by
 unfold zW8 at h;simp only [Bool.and_eq_true] at h;exact kK5 h.2
set_option maxHeartbeats 2000000 in
theorem gS (p q:Pg) (hok:OkP p) (os ol ot os' ol' ot':Option Addr) (cs cl ct cs' cl' ct':Nat) (w:World) (hSh:DcRow w S os p.shared) (hL:DcRow w S ol p.locks) (hT:ThRow w S ot p.threads) (hSh':DcRow w S os' q.shared) (hL':DcRow w S ol' q.locks) (hT':ThRow w S ot' q.threads) :
    Ret Tryz.prog 14 [.agg (pgL p os ol ot cs cl ct).toArray,.agg (pgL q os' ol' ot' cs' cl' ct').toArray] w fun v w'=>v=.bool (zW8 p q)∧Chg [] w w':=by
 refine zB [_,_] func14 rfl ntmps14 rfl ?_
 have st:=St.init w []
 obtain⟨w0,rfl⟩:∃ w0,w0=w:=⟨_,rfl⟩
 have hn1:=hok.1.1
 have hn2:=hok.2.1.1
 have hn3:=hok.2.2.1
 refine sr ?_
 refine zA3 (zT2 (l:=[_,_,_]) st rfl rfl rfl rfl ?_)
 intro b2 w hb2 st
 refine zA3 (zT2 (l:=[_,_,_]) st rfl rfl rfl rfl ?_)
 intro b3 w hb3 st
 refine ya ?_
 refine et (vk2 2 3 (zC5 (sr ?_)))
 refine vy (zC3 rfl qU26 rfl rfl qZ23 rfl) ?_
 refine yl st 1 qA23 ?_
 refine vy (zC3 rfl qU26 rfl rfl qZ23 rfl) ?_
 refine yl st 0 qA23 ?_
 refine zA3 (zA1 [_,_] rfl rfl call44 rfl (qL0 p.shared q.shared _ _ _ _ _ (RowC.kept hSh st.sm) (RowC.kept hSh' st.sm) (by omega)) ?_)
 rintro _ w ⟨rfl,cw⟩
 replace st:=st.call0 cw
 refine vy (zG5 rfl) ?_
 refine vmb ?_ ?_
 ·intro hg14
  try simp only [dn] at hg14
  iterate 6 refine vsk ?_
  refine ypt ?_
  refine ym ?_
  iterate 7 refine vsk ?_
  refine ypt ?_
  refine et (vk3 2 3 30 ?_)
  refine zC9 rfl ?_
  refine sr ?_
  refine ya ?_
  refine et (vk1 4 (zA8 (zA ?_)))
  refine vr1 st results14 ?_
  refine⟨?_,st.chg⟩
  clear st
  unfold zW8
  (rw [‹zJ9 zV5 p.shared q.shared=false›];simp;done)
 intro hg14
 try simp only [dn] at hg14
 refine yfz 1 qU26 qZ23 ?_
 refine yl st 1 qA23 ?_
 refine yfz 1 qU26 qZ23 ?_
 refine yl st 0 qA23 ?_
 refine zA3 (zA1 [_,_] rfl rfl call44 rfl (qL0 p.locks q.locks _ _ _ _ _ (RowC.kept hL st.sm) (RowC.kept hL' st.sm) (by omega)) ?_)
 rintro _ w ⟨rfl,cw⟩
 replace st:=st.call0 cw
 refine vy (zG5 rfl) ?_
 refine ypf ?_
 refine vmb ?_ ?_
 ·intro hg22
  try simp only [dn] at hg22
  iterate 7 refine vsk ?_
  refine ypt ?_
  refine et (vk3 2 3 30 ?_)
  refine zC9 rfl ?_
  refine sr ?_
  refine ya ?_
  refine et (vk1 4 (zA8 (zA ?_)))
  refine vr1 st results14 ?_
  refine⟨?_,st.chg⟩
  clear st
  unfold zW8
  (rw [‹zJ9 zV5 p.locks q.locks=false›];simp;done)
 intro hg22
 try simp only [dn] at hg22
 refine yfz 2 qU26 qZ24 ?_
 refine yl st 1 qA24 ?_
 refine vy (zB1 rfl qU24) ?_
 refine yfz 2 qU26 qZ24 ?_
 refine yl st 0 qA24 ?_
 refine vy (zB1 rfl qU24) ?_
 refine vy (zR rfl rfl) ?_
 refine ypf ?_
 refine et (vk3 2 3 30 ?_)
 refine vif ?_ ?_
 ·intro hc30
  try simp only [dn] at hc30
  refine sr ?_
  refine ya ?_
  refine et (vk1 4 (zA8 (zA ?_)))
  refine vr1 st results14 ?_
  refine⟨?_,st.chg⟩
  clear st
  unfold zW8
  (rw [zV2 (f:=qG8) (by omega)];simp;done)
 intro hc30
 try simp only [dn] at hc30
 have hlen:p.threads.length=q.threads.length:=by omega
 refine kt (vk2 2 3 (zC5 (sr ?_)))
 refine yfz 2 qU26 qZ24 ?_
 refine yl st 1 qA24 ?_
 refine vy (zB1 rfl qU24) ?_
 refine ym ?_
 refine et (vk4 2 3 33 34 (zD6 ?_))
 refine zC (w0:=w0) (M:=[]) (fun (j:Nat)=>[(2,.pointer (some ⟨b2,0,none⟩)),(3,.pointer (some ⟨b3,0,none⟩)),(33,.int .i64 (p.threads.length:Int)),(34,.int .i64 (j:Int))]) (fun _=>[.blk b2 (.cells (pgL p os ol ot cs cl ct).toArray 26 (0,0)),.blk b3 (.cells (pgL q os' ol' ot' cs' cl' ct').toArray 26 (0,0))]) (fun j _=>j≤p.threads.length∧∀ (i:Nat) x y,i<j→p.threads[i]?=some x→q.threads[i]?=some y→qG8 x y=true) (fun j=>p.threads.length - j) 0 ⟨rfl,rfl,rfl,rfl,trivial⟩ (st.pick [1,0] rfl (by decide)) ⟨by omega,fun i x y h=>by omega⟩ ?_
 clear st
 rintro j w ⟨hj,hall⟩ st
 refine sr ?_
 refine vy (zM5 rfl rfl) ?_
 refine et (vk5 2 3 33 34 35 (zC5 ?_))
 refine vif ?_ ?_
 ·intro hc35
  try simp only [dn] at hc35
  have stK:=st
  obtain⟨x,hx⟩:∃ x,p.threads[j]?=some x:=⟨_,List.getElem?_eq_getElem (by omega)⟩
  obtain⟨y,hy⟩:∃ y,q.threads[j]?=some y:=⟨_,List.getElem?_eq_getElem (by omega)⟩
  obtain⟨gb,go,rfl,hgS,hgl,hg⟩:=ThRow.at hT (by omega)
  obtain⟨fb,fo,rfl,hfS,hfl,hf⟩:=ThRow.at hT' (by omega)
  obtain⟨tl,tb,cll,cbb,htl,htb,hc⟩:=hg j x hx
  obtain⟨ul,ub,dll,dbb,hul,hub,hd⟩:=hf j y hy
  have hkx:=hok.2.2.2 j x hx
  have st:=stK
  clear stK
  refine kt (vk4 2 3 33 34 (zC5 (zD6 (sr ?_))))
  refine ym ?_
  refine ya ?_
  refine et (vk5 2 3 5 33 34 ?_)
  refine zL2 (w0:=w0) (M:=[]) (fun (z:Nat×Nat)=>[(2,.pointer (some ⟨b2,0,none⟩)),(3,.pointer (some ⟨b3,0,none⟩)),(6,.pointer (some ⟨z.1,0,none⟩)),(7,.pointer (some ⟨z.2,0,none⟩)),(33,.int .i64 (p.threads.length:Int)),(34,.int .i64 (j:Int))]) (fun z=>[.blk b2 (.cells (pgL p os ol (some ⟨gb,go,none⟩) cs cl ct).toArray 26 (0,0)),.blk b3 (.cells (pgL q os' ol' (some ⟨fb,fo,none⟩) cs' cl' ct').toArray 26 (0,0)),.blk z.1 (.cells (thL x tl tb cll cbb).toArray 69 (0,0)),.blk z.2 (.cells (thL y ul ub dll dbb).toArray 69 (0,0))]) (fun _ _=>True) ?_ ?_
  ·refine jJ1 Tryz.mixed (.take 0 (.take 1 (.take 2 (.take 3 (.take 4 (.take 5 (.take 6 (.take 7 (.take 8 (.take 9 (.two 10 11 (.one 11 (.one 12 (.one 13 .done))) (.one 10 (.one 12 (.one 13 .done)))))))))))))) st ?_
   clear st;intro w st hS
   refine dfz hS 2 qU26 qZ24 ?_
   refine dld hS 0 qA24 ?_
   refine dm hS ?_
   refine zD9 rfl rfl rfl hS (fun w st=>zM3 (k:=j) rfl rfl qU24 qZ69 rfl (by omega)) ?_
   refine zD9 rfl rfl rfl hS (fun w st=>zE6 (thL x tl tb cll cbb) rfl qA69 qZ69 rfl (fun i v hi=>st.chg.cell (hc i v hi) (by simp))) ?_
   refine dfz hS 2 qU26 qZ24 ?_
   refine dld hS 1 qA24 ?_
   refine dm hS ?_
   refine zD9 rfl rfl rfl hS (fun w st=>zM3 (k:=j) rfl rfl qU24 qZ69 rfl (by omega)) ?_
   refine zD9 rfl rfl rfl hS (fun w st=>zE6 (thL y ul ub dll dbb) rfl qA69 qZ69 rfl (fun i v hi=>st.chg.cell (hd i v hi) (by simp))) ?_
   refine zU1 rfl rfl ?_ ?_
   ·refine(zF8 (l:=[_,_,_,_]) st rfl rfl qV69 rfl ?_)
    intro b6 w hb6 st
    refine zB2 st.dr ?_;intro hS
    refine zG rfl (zF8 (l:=[_,_,_,_]) st rfl rfl qV69 rfl ?_)
    intro b7 w hb7 st
    refine zB2 st.dr ?_;intro hS
    refine zG rfl (zC4 st 1 [_,_,_,_] qZ69 ?_)
    intro w st;dsimp only [zA0,wr] at st
    refine zB2 st.dr ?_;intro hS
    refine zG rfl (zC4 st 0 [_,_,_,_] qZ69 ?_)
    intro w st;dsimp only [zA0,wr] at st
    refine zB2 st.dr ?_;intro hS
    refine zV ?_
    refine zB8 (b6,b7) ⟨rfl,rfl,rfl,rfl,rfl,rfl,trivial⟩ (st.pick [2,3,1,0] rfl (by decide)) ?_
    ·trivial
   refine(zF8 (l:=[_,_,_,_]) st rfl rfl qV69 rfl ?_)
   intro b7 w hb7 st
   refine zB2 st.dr ?_;intro hS
   refine zG rfl (zF8 (l:=[_,_,_,_]) st rfl rfl qV69 rfl ?_)
   intro b6 w hb6 st
   refine zB2 st.dr ?_;intro hS
   refine zG rfl (zC4 st 0 [_,_,_,_] qZ69 ?_)
   intro w st;dsimp only [zA0,wr] at st
   refine zB2 st.dr ?_;intro hS
   refine zG rfl (zC4 st 1 [_,_,_,_] qZ69 ?_)
   intro w st;dsimp only [zA0,wr] at st
   refine zB2 st.dr ?_;intro hS
   refine zV ?_
   refine zB8 (b6,b7) ⟨rfl,rfl,rfl,rfl,rfl,rfl,trivial⟩ (st.pick [2,3,0,1] rfl (by decide)) ?_
   ·trivial
  clear st
  rintro ⟨b6,b7⟩ w - st
  dsimp only at *
  refine sr ?_
  refine vy (zC3 rfl qU69 rfl rfl qZ9 rfl) ?_
  refine yl st 2 qA9 ?_
  refine vy (zC3 rfl qU69 rfl rfl qZ9 rfl) ?_
  refine yl st 3 qA9 ?_
  refine vy (zY4 rfl rfl) ?_
  refine vmb ?_ ?_
  ·intro hg52
   try simp only [dn] at hg52
   iterate 6 refine vsk ?_
   refine ypt ?_
   refine ym ?_
   iterate 6 refine vsk ?_
   refine ypt ?_
   refine et (vk5 2 3 33 34 67 ?_)
   refine zC9 rfl ?_
   refine sr ?_
   refine ya ?_
   refine et (vk1 4 (zA8 (zA4 (zA (zA (zA4 (zA ?_)))))))
   refine vr1 st results14 ?_
   refine⟨?_,st.chg⟩
   clear st
   unfold zW8
   (rw [zL (f:=qG8) hx hy (by unfold qG8;simp_all)];simp;done)
  intro hg52
  try simp only [dn] at hg52
  refine yfz 1 qU69 qZ23 ?_
  refine yl st 2 qA23 ?_
  refine yfz 1 qU69 qZ23 ?_
  refine yl st 3 qA23 ?_
  refine zA3 (zA1 [_,_] rfl rfl call44 rfl (qL0 x.locals y.locals _ _ _ _ _ (RowC.kept htl st.sm) (RowC.kept hul st.sm) (by have:=hkx.1.1;omega)) ?_)
  rintro _ w ⟨rfl,cw⟩
  replace st:=st.call0 cw
  refine vy (zG5 rfl) ?_
  refine ypf ?_
  refine vmb ?_ ?_
  ·intro hg60
   try simp only [dn] at hg60
   iterate 6 refine vsk ?_
   refine ypt ?_
   refine et (vk5 2 3 33 34 67 ?_)
   refine zC9 rfl ?_
   refine sr ?_
   refine ya ?_
   refine et (vk1 4 (zA8 (zA4 (zA (zA (zA4 (zA ?_)))))))
   refine vr1 st results14 ?_
   refine⟨?_,st.chg⟩
   clear st
   unfold zW8
   (rw [zL (f:=qG8) hx hy (by unfold qG8;simp_all)];simp;done)
  intro hg60
  try simp only [dn] at hg60
  refine yfz 2 qU69 qZ65 ?_
  refine yl st 2 qA65 ?_
  refine yfz 2 qU69 qZ65 ?_
  refine yl st 3 qA65 ?_
  refine zA3 (zA1 [_,_] rfl rfl call45 rfl (gP2 _ x.body rfl hkx.2.1 y.body _ _ _ _ _ (htb.kept st.sm) (hub.kept st.sm)) ?_)
  rintro _ w ⟨rfl,cw⟩
  replace st:=st.call0 cw
  refine vy (zG5 rfl) ?_
  refine ypf ?_
  refine et (vk5 2 3 33 34 67 ?_)
  refine vif ?_ ?_
  ·intro hc67
   try simp only [dn] at hc67
   refine sr ?_
   refine ya ?_
   refine et (vk1 4 (zA8 (zA4 (zA (zA (zA4 (zA ?_)))))))
   refine vr1 st results14 ?_
   refine⟨?_,st.chg⟩
   clear st
   unfold zW8
   (rw [zL (f:=qG8) hx hy (by unfold qG8;simp_all)];simp;done)
  intro hc67
  try simp only [dn] at hc67
  refine zA5 (zE0 (zA6 (vk4 2 3 33 34 (zB4 ?_))))
  refine vy (zK2 rfl rfl (by omega:_=((j+1:Nat):Int)) (by omega) (by omega)) ?_
  refine ym ?_
  refine zI6 ?_
  refine zA7 (j+1)  ⟨rfl,rfl,rfl,rfl,trivial⟩ (st.pick [0,1] rfl (by decide)) ?_ ?_
  ·exact⟨by omega,fun i x' y' hi h1 h2=>by
     rcases (by omega:i<j∨i=j) with h|rfl
     · exact hall i x' y' h h1 h2
     · rw [hx] at h1;rw [hy] at h2;cases h1;cases h2;(unfold qG8;clear st;simp_all)⟩
  omega
 intro hc35
 try simp only [dn] at hc35
 refine zJ1 (zB3 (zB3 (zC0 (zA6 (zR0 [] trivial (sr ?_))))))
 refine ya ?_
 refine et (vk1 4 (zA8 ?_))
 refine vr1 st results14 ?_
 refine⟨?_,st.chg⟩
 clear st
 unfold zW8
 (rw [‹zJ9 zV5 p.shared q.shared=true›,‹zJ9 zV5 p.locks q.locks=true›,zT0 (by omega) fun i x y hi h1 h2=>hall i x y (by omega) h1 h2];rfl)
set_option maxHeartbeats 2000000 in
theorem qR5 (p q:Pg) (hok:OkP p) (os ol ot os' ol' ot':Option Addr) (cs cl ct cs' cl' ct':Nat) (w:World) (hSh:DcRow w S os p.shared) (hL:DcRow w S ol p.locks) (hT:ThRow w S ot p.threads) (hSh':DcRow w S os' q.shared) (hL':DcRow w S ol' q.locks) (hT':ThRow w S ot' q.threads) :
    Ret Tryz.prog 13 [.agg (pgL p os ol ot cs cl ct).toArray,.agg (pgL q os' ol' ot' cs' cl' ct').toArray] w fun v w'=>v=.bool (qJ3 p q)∧Chg [] w w':=by
 refine zB [_,_] func13 rfl ntmps13 rfl ?_
 have st:=St.init w []
 obtain⟨w0,rfl⟩:∃ w0,w0=w:=⟨_,rfl⟩
 have hn1:=hok.1.1
 have hn2:=hok.2.1.1
 have hn3:=hok.2.2.1
 refine sr ?_
 refine zA3 (zT2 (l:=[_,_,_]) st rfl rfl rfl rfl ?_)
 intro b2 w hb2 st
 refine zA3 (zT2 (l:=[_,_,_]) st rfl rfl rfl rfl ?_)
 intro b3 w hb3 st
 refine ya ?_
 refine et (vk2 2 3 (zC5 (sr ?_)))
 refine yla st 1 [_,_,_] qA26 qZ26 ?_
 refine yla st 0 [_,_,_] qA26 qZ26 ?_
 refine zA3 (zA1 [_,_] rfl rfl call14 rfl (gS p q hok _ _ _ _ _ _ _ _ _ _ _ _ _ (RowC.kept hSh st.sm) (RowC.kept hL st.sm) (hT.kept st.sm) (RowC.kept hSh' st.sm) (RowC.kept hL' st.sm) (hT'.kept st.sm)) ?_)
 rintro _ w ⟨rfl,cw⟩
 replace st:=st.call0 cw
 refine vy (zG5 rfl) ?_
 refine vmb ?_ ?_
 ·intro hg12
  try simp only [dn] at hg12
  iterate 6 refine vsk ?_
  refine ypt ?_
  refine ym ?_
  iterate 6 refine vsk ?_
  refine ypt ?_
  refine et (vk3 2 3 27 ?_)
  refine zC9 rfl ?_
  refine sr ?_
  refine ya ?_
  refine et (vk1 4 (zA8 (zA ?_)))
  refine vr1 st results13 ?_
  refine⟨?_,st.chg⟩
  clear st
  unfold qJ3
  (rw [‹zW8 p q=false›];simp;done)
 intro hg12
 try simp only [dn] at hg12
 refine vy (zC3 rfl qU26 rfl rfl qZ23 rfl) ?_
 refine yl st 1 qA23 ?_
 refine vy (zC3 rfl qU26 rfl rfl qZ23 rfl) ?_
 refine yl st 0 qA23 ?_
 refine zA3 (zA1 [_,_] rfl rfl call42 rfl (qC8 p.shared q.shared _ _ _ _ _ (RowC.kept hSh st.sm) (RowC.kept hSh' st.sm) (by omega)) ?_)
 rintro _ w ⟨rfl,cw⟩
 replace st:=st.call0 cw
 refine vy (zG5 rfl) ?_
 refine ypf ?_
 refine vmb ?_ ?_
 ·intro hg20
  try simp only [dn] at hg20
  iterate 6 refine vsk ?_
  refine ypt ?_
  refine et (vk3 2 3 27 ?_)
  refine zC9 rfl ?_
  refine sr ?_
  refine ya ?_
  refine et (vk1 4 (zA8 (zA ?_)))
  refine vr1 st results13 ?_
  refine⟨?_,st.chg⟩
  clear st
  unfold qJ3
  (rw [‹zJ9 eqD p.shared q.shared=false›];simp;done)
 intro hg20
 try simp only [dn] at hg20
 refine yfz 1 qU26 qZ23 ?_
 refine yl st 1 qA23 ?_
 refine yfz 1 qU26 qZ23 ?_
 refine yl st 0 qA23 ?_
 refine zA3 (zA1 [_,_] rfl rfl call42 rfl (qC8 p.locks q.locks _ _ _ _ _ (RowC.kept hL st.sm) (RowC.kept hL' st.sm) (by omega)) ?_)
 rintro _ w ⟨rfl,cw⟩
 replace st:=st.call0 cw
 refine vy (zG5 rfl) ?_
 refine ypf ?_
 refine et (vk3 2 3 27 ?_)
 refine vif ?_ ?_
 ·intro hc27
  try simp only [dn] at hc27
  refine sr ?_
  refine ya ?_
  refine et (vk1 4 (zA8 (zA ?_)))
  refine vr1 st results13 ?_
  refine⟨?_,st.chg⟩
  clear st
  unfold qJ3
  (rw [‹zJ9 eqD p.locks q.locks=false›];simp;done)
 intro hc27
 try simp only [dn] at hc27
 have hsp:zW8 p q=true:=by assumption
 have hlen:=kO7 hsp
 refine kt (vk2 2 3 (zC5 (sr ?_)))
 refine yfz 2 qU26 qZ24 ?_
 refine yl st 1 qA24 ?_
 refine vy (zB1 rfl qU24) ?_
 refine ym ?_
 refine et (vk4 2 3 30 31 (zD6 ?_))
 refine zC (w0:=w0) (M:=[]) (fun (j:Nat)=>[(2,.pointer (some ⟨b2,0,none⟩)),(3,.pointer (some ⟨b3,0,none⟩)),(30,.int .i64 (p.threads.length:Int)),(31,.int .i64 (j:Int))]) (fun _=>[.blk b2 (.cells (pgL p os ol ot cs cl ct).toArray 26 (0,0)),.blk b3 (.cells (pgL q os' ol' ot' cs' cl' ct').toArray 26 (0,0))]) (fun j _=>j≤p.threads.length∧∀ (i:Nat) x y,i<j→p.threads[i]?=some x→q.threads[i]?=some y→exT x y=true) (fun j=>p.threads.length - j) 0 ⟨rfl,rfl,rfl,rfl,trivial⟩ (st.pick [1,0] rfl (by decide)) ⟨by omega,fun i x y h=>by omega⟩ ?_
 clear st
 rintro j w ⟨hj,hall⟩ st
 refine sr ?_
 refine vy (zM5 rfl rfl) ?_
 refine et (vk5 2 3 30 31 32 (zC5 ?_))
 refine vif ?_ ?_
 ·intro hc32
  try simp only [dn] at hc32
  have stK:=st
  obtain⟨x,hx⟩:∃ x,p.threads[j]?=some x:=⟨_,List.getElem?_eq_getElem (by omega)⟩
  obtain⟨y,hy⟩:∃ y,q.threads[j]?=some y:=⟨_,List.getElem?_eq_getElem (by omega)⟩
  obtain⟨gb,go,rfl,hgS,hgl,hg⟩:=ThRow.at hT (by omega)
  obtain⟨fb,fo,rfl,hfS,hfl,hf⟩:=ThRow.at hT' (by omega)
  obtain⟨tl,tb,cll,cbb,htl,htb,hc⟩:=hg j x hx
  obtain⟨ul,ub,dll,dbb,hul,hub,hd⟩:=hf j y hy
  have hkx:=hok.2.2.2 j x hx
  have st:=stK
  clear stK
  refine kt (vk4 2 3 30 31 (zC5 (zD6 (sr ?_))))
  refine ym ?_
  refine ya ?_
  refine et (vk5 2 3 5 30 31 ?_)
  refine zL2 (w0:=w0) (M:=[]) (fun (z:Nat×Nat)=>[(2,.pointer (some ⟨b2,0,none⟩)),(3,.pointer (some ⟨b3,0,none⟩)),(6,.pointer (some ⟨z.1,0,none⟩)),(7,.pointer (some ⟨z.2,0,none⟩)),(30,.int .i64 (p.threads.length:Int)),(31,.int .i64 (j:Int))]) (fun z=>[.blk b2 (.cells (pgL p os ol (some ⟨gb,go,none⟩) cs cl ct).toArray 26 (0,0)),.blk b3 (.cells (pgL q os' ol' (some ⟨fb,fo,none⟩) cs' cl' ct').toArray 26 (0,0)),.blk z.1 (.cells (thL x tl tb cll cbb).toArray 69 (0,0)),.blk z.2 (.cells (thL y ul ub dll dbb).toArray 69 (0,0))]) (fun _ _=>True) ?_ ?_
  ·refine jJ1 Tryz.mixed (.take 0 (.take 1 (.take 2 (.take 3 (.take 4 (.take 5 (.take 6 (.take 7 (.take 8 (.take 9 (.two 10 11 (.one 11 (.one 12 (.one 13 .done))) (.one 10 (.one 12 (.one 13 .done)))))))))))))) st ?_
   clear st;intro w st hS
   refine dfz hS 2 qU26 qZ24 ?_
   refine dld hS 0 qA24 ?_
   refine dm hS ?_
   refine zD9 rfl rfl rfl hS (fun w st=>zM3 (k:=j) rfl rfl qU24 qZ69 rfl (by omega)) ?_
   refine zD9 rfl rfl rfl hS (fun w st=>zE6 (thL x tl tb cll cbb) rfl qA69 qZ69 rfl (fun i v hi=>st.chg.cell (hc i v hi) (by simp))) ?_
   refine dfz hS 2 qU26 qZ24 ?_
   refine dld hS 1 qA24 ?_
   refine dm hS ?_
   refine zD9 rfl rfl rfl hS (fun w st=>zM3 (k:=j) rfl rfl qU24 qZ69 rfl (by omega)) ?_
   refine zD9 rfl rfl rfl hS (fun w st=>zE6 (thL y ul ub dll dbb) rfl qA69 qZ69 rfl (fun i v hi=>st.chg.cell (hd i v hi) (by simp))) ?_
   refine zU1 rfl rfl ?_ ?_
   ·refine(zF8 (l:=[_,_,_,_]) st rfl rfl qV69 rfl ?_)
    intro b6 w hb6 st
    refine zB2 st.dr ?_;intro hS
    refine zG rfl (zF8 (l:=[_,_,_,_]) st rfl rfl qV69 rfl ?_)
    intro b7 w hb7 st
    refine zB2 st.dr ?_;intro hS
    refine zG rfl (zC4 st 1 [_,_,_,_] qZ69 ?_)
    intro w st;dsimp only [zA0,wr] at st
    refine zB2 st.dr ?_;intro hS
    refine zG rfl (zC4 st 0 [_,_,_,_] qZ69 ?_)
    intro w st;dsimp only [zA0,wr] at st
    refine zB2 st.dr ?_;intro hS
    refine zV ?_
    refine zB8 (b6,b7) ⟨rfl,rfl,rfl,rfl,rfl,rfl,trivial⟩ (st.pick [2,3,1,0] rfl (by decide)) ?_
    ·trivial
   refine(zF8 (l:=[_,_,_,_]) st rfl rfl qV69 rfl ?_)
   intro b7 w hb7 st
   refine zB2 st.dr ?_;intro hS
   refine zG rfl (zF8 (l:=[_,_,_,_]) st rfl rfl qV69 rfl ?_)
   intro b6 w hb6 st
   refine zB2 st.dr ?_;intro hS
   refine zG rfl (zC4 st 0 [_,_,_,_] qZ69 ?_)
   intro w st;dsimp only [zA0,wr] at st
   refine zB2 st.dr ?_;intro hS
   refine zG rfl (zC4 st 1 [_,_,_,_] qZ69 ?_)
   intro w st;dsimp only [zA0,wr] at st
   refine zB2 st.dr ?_;intro hS
   refine zV ?_
   refine zB8 (b6,b7) ⟨rfl,rfl,rfl,rfl,rfl,rfl,trivial⟩ (st.pick [2,3,0,1] rfl (by decide)) ?_
   ·trivial
  clear st
  rintro ⟨b6,b7⟩ w - st
  dsimp only at *
  refine sr ?_
  refine yfz 3 qU69 qZ3 ?_
  refine yl st 2 qA3 ?_
  refine yfz 3 qU69 qZ3 ?_
  refine yl st 3 qA3 ?_
  refine vy (zR rfl rfl) ?_
  refine vmb ?_ ?_
  ·intro hg49
   try simp only [dn] at hg49
   iterate 6 refine vsk ?_
   refine ypt ?_
   refine ym ?_
   iterate 6 refine vsk ?_
   refine ypt ?_
   refine et (vk5 2 3 30 31 64 ?_)
   refine zC9 rfl ?_
   refine sr ?_
   refine ya ?_
   refine et (vk1 4 (zA8 (zA4 (zA (zA (zA4 (zA ?_)))))))
   refine vr1 st results13 ?_
   refine⟨?_,st.chg⟩
   clear st
   unfold qJ3
   (rw [zL (f:=exT) hx hy (by unfold exT;simp_all)];simp;done)
  intro hg49
  try simp only [dn] at hg49
  refine yfz 1 qU69 qZ23 ?_
  refine yl st 2 qA23 ?_
  refine yfz 1 qU69 qZ23 ?_
  refine yl st 3 qA23 ?_
  refine zA3 (zA1 [_,_] rfl rfl call42 rfl (qC8 x.locals y.locals _ _ _ _ _ (RowC.kept htl st.sm) (RowC.kept hul st.sm) (by have:=hkx.1.1;omega)) ?_)
  rintro _ w ⟨rfl,cw⟩
  replace st:=st.call0 cw
  refine vy (zG5 rfl) ?_
  refine ypf ?_
  refine vmb ?_ ?_
  ·intro hg57
   try simp only [dn] at hg57
   iterate 6 refine vsk ?_
   refine ypt ?_
   refine et (vk5 2 3 30 31 64 ?_)
   refine zC9 rfl ?_
   refine sr ?_
   refine ya ?_
   refine et (vk1 4 (zA8 (zA4 (zA (zA (zA4 (zA ?_)))))))
   refine vr1 st results13 ?_
   refine⟨?_,st.chg⟩
   clear st
   unfold qJ3
   (rw [zL (f:=exT) hx hy (by unfold exT;simp_all)];simp;done)
  intro hg57
  try simp only [dn] at hg57
  refine yfz 2 qU69 qZ65 ?_
  refine yl st 2 qA65 ?_
  refine yfz 2 qU69 qZ65 ?_
  refine yl st 3 qA65 ?_
  refine zA3 (zA1 [_,_] rfl rfl call43 rfl (gL9 _ x.body rfl hkx.2.1 y.body _ _ _ _ _ (htb.kept st.sm) (hub.kept st.sm)) ?_)
  rintro _ w ⟨rfl,cw⟩
  replace st:=st.call0 cw
  refine vy (zG5 rfl) ?_
  refine ypf ?_
  refine et (vk5 2 3 30 31 64 ?_)
  refine vif ?_ ?_
  ·intro hc64
   try simp only [dn] at hc64
   refine sr ?_
   refine ya ?_
   refine et (vk1 4 (zA8 (zA4 (zA (zA (zA4 (zA ?_)))))))
   refine vr1 st results13 ?_
   refine⟨?_,st.chg⟩
   clear st
   unfold qJ3
   (rw [zL (f:=exT) hx hy (by unfold exT;simp_all)];simp;done)
  intro hc64
  try simp only [dn] at hc64
  refine zA5 (zE0 (zA6 (vk4 2 3 30 31 (zB4 ?_))))
  refine vy (zK2 rfl rfl (by omega:_=((j+1:Nat):Int)) (by omega) (by omega)) ?_
  refine ym ?_
  refine zI6 ?_
  refine zA7 (j+1)  ⟨rfl,rfl,rfl,rfl,trivial⟩ (st.pick [0,1] rfl (by decide)) ?_ ?_
  ·exact⟨by omega,fun i x' y' hi h1 h2=>by
     rcases (by omega:i<j∨i=j) with h|rfl
     · exact hall i x' y' h h1 h2
     · rw [hx] at h1;rw [hy] at h2;cases h1;cases h2;(unfold exT;clear st;simp_all)⟩
  omega
 intro hc32
 try simp only [dn] at hc32
 refine zJ1 (zB3 (zB3 (zC0 (zA6 (zR0 [] trivial (sr ?_))))))
 refine ya ?_
 refine et (vk1 4 (zA8 ?_))
 refine vr1 st results13 ?_
 refine⟨?_,st.chg⟩
 clear st
 unfold qJ3
 (rw [‹zW8 p q=true›,‹zJ9 eqD p.shared q.shared=true›,‹zJ9 eqD p.locks q.locks=true›,zT0 hlen fun i x y hi h1 h2=>hall i x y (by omega) h1 h2];rfl)
end
abbrev gK5:=ExR 42
abbrev qT0:=SmR 42 67
abbrev qL3:=DcR 63
abbrev kT7:=ThR 42 67 63 69
abbrev PgQ:=PgS 42 67 63 69
theorem Tryz.info63:Tryz.prog.info? 63=some Tryz.t63:=by kernel_rfl
theorem Tryz.info42:Tryz.prog.info? 42=some Tryz.t42:=by kernel_rfl
theorem Tryz.info67:Tryz.prog.info? 67=some Tryz.t67:=by kernel_rfl
theorem Tryz.info69:Tryz.prog.info? 69=some Tryz.t69:=by kernel_rfl
theorem zW6 {α:Type} {l:List α} {j:Nat} {x:α} (h:l[j]?=some x):l.take (j+1)=l.take j++[x]:=by
 obtain⟨hj,e⟩:=List.getElem?_eq_some_iff.1 h;rw [List.take_succ_eq_append_getElem hj,e]
section
variable {n0:Nat}
end
section
variable {n0:Nat}
end
def zU2 (s:List UInt8):Ex:=.mk 2 0 0 s [] 0
def opE (op:Int) (x y:Ex):Ex:=.mk 4 op 0 [] [x,y] 0
def gS4 (e:Ex):List UInt8×Nat:=if zB9 e 0=true then (if (txtE e).length≤65536 then (txtE e,0) else ([],4)) else ([],40)
theorem qI1 (s:List UInt8) (w:World) (S:Nat→Prop):ExV w S (zU2 s) (exL (zU2 s) none 0):=.mk (fun _=>[]) (.inl rfl) (fun j x h=>by simp at h)
theorem gF8 {w:World} {S:Nat→Prop} {op:Int} {x y:Ex} {lx ly:List Value} {b E:Nat} {fz:Nat×Nat} (h:w.heap[b]?=some (.cells (lx++ly).toArray E fz)) (hS:S b) (hx:ExV w S x lx) (hy:ExV w S y ly):ExV w S (opE op x y) (exL (opE op x y) (some ⟨b,0,none⟩) 2):=by
 have h6:=hx.len;have h6':=hy.len;refine .mk (fun j=>if j=0 then lx else ly) (.inr ⟨b,0,rfl,hS,(Array.getElem?_eq_some_iff.1 h).1,fun j hj=>?_⟩) (fun j z hz=>?_);simp only [List.length_cons,List.length_nil] at hj;rcases (by omega:j=0∨j=1) with rfl|rfl;refine⟨h6,fun i v hi=>?_⟩;refine zO h ?_;have hi':lx[i]?=some v:=hi;rw [zL8,show 0+0*6+i=i by omega,List.getElem?_append_left (List.getElem?_eq_some_iff.1 hi').1];exact hi';refine⟨h6',fun i v hi=>?_⟩;refine zO h ?_;rw [zL8,show 0+1*6+i=lx.length+i by omega,List.getElem?_append_right (by omega),Nat.add_sub_cancel_left];exact hi
 match j,hz with
 | 0,hz=>simp at hz;subst hz;exact hx
 | 1,hz=>simp at hz;subst hz;exact hy
 | j+2,hz=>simp at hz
theorem qT1 {w:World} {S:Nat→Prop} {b E sz:Nat} {fz:Nat×Nat} {l:List Value} {vs:Nat→List Value} (h:w.heap[b]?=some (.cells l.toArray E fz)) (hS:S b) (hl:l.length=sz) (hv:vs 0=l):RowC w S sz (some ⟨b,0,none⟩) 1 vs:=by
 refine .inr ⟨b,0,rfl,hS,(Array.getElem?_eq_some_iff.1 h).1,fun j hj=>?_⟩;obtain rfl:j=0:=by omega
 rw [hv];refine⟨hl,fun i v hi=>zO h ?_⟩;rw [zL8,show 0+0*sz+i=i by omega];exact hi
section
variable {n0:Nat}
theorem zW0 (s:List UInt8) (w:World):Ret Tryz.prog 33 [str s] w fun v w'=>v=.agg (exL (zU2 s) none 0).toArray∧Chg [] w w':=by
 refine zB [_] func33 rfl ntmps33 rfl ?_;have st:=St.init w [];refine a2 ?_;refine zA3 (zF8 (l:=[_,_,_,_,_,_]) st rfl rfl qV42 rfl ?_);intro b2 w hb2 st;refine a5 ?_;refine vy (ybd (.agg #[_,_,_,_,_,_]) [(0,_),(3,_)]) ?_;refine zA3 (zC4 st 0 [_,_,_,_,_,_] qZ42 ?_);intro w st;refine a3 ?_;refine zB7 st (.inl rfl) results33 (by exact .cell 0 rfl rfl qA42 qZ42) ?_;refine⟨_,rfl,?_⟩;exact⟨rfl,st.chg⟩
theorem qH4 (op:Int) (x y:Ex) (o o':Option Addr) (c c':Nat) (w:World):Ret Tryz.prog 32 [.int .u8 op,.agg (exL x o c).toArray,.agg (exL y o' c').toArray] w fun v w'=>∃ b,v=.agg (exL (opE op x y) (some ⟨b,0,none⟩) 2).toArray∧w.heap.size≤b∧w'.heap[b]?=some (.cells (exL x o c++exL y o' c').toArray 42 (0,0))∧Chg [] w w':=by
 refine zB [_,_,_] func32 rfl ntmps32 rfl ?_;have st:=St.init w [];refine a2 ?_;refine zA3 (zT2 (l:=[_,_,_,_,_,_]) st rfl rfl rfl rfl ?_);intro b4 w hb4 st;refine zA3 (zT2 (l:=[_,_,_,_,_,_]) st rfl rfl rfl rfl ?_);intro b5 w hb5 st;refine zA3 (zF8 (l:=[_,_,_,_,_,_]) st rfl rfl qV42 rfl ?_);intro b6 w hb6 st;refine a5 ?_;refine yla st 2 [_,_,_,_,_,_] qA42 qZ42 ?_;refine yla st 1 [_,_,_,_,_,_] qA42 qZ42 ?_;refine zA3 (zY7 (l:=exL x o c++exL y o' c') (E:=42) st [(0,_),(1,_)] rfl rfl rfl (fun w=>by simp [Instr.buildSlice,run_underlying qU40,qZ42,qV42,Instr.fill,newRow,newObj,Sem.run,go_sem,Value.cells]) ?_);intro b10 w hb10 st;refine vy (ybd (.agg #[_,_,_,_,_,_]) [(0,_),(1,_),(4,_)]) ?_;refine zA3 (zC4 st 1 [_,_,_,_,_,_] qZ42 ?_);intro w st;refine a3 ?_;refine zB7 st (.inl rfl) results32 (by exact .cell 1 rfl rfl qA42 qZ42) ?_;refine⟨_,rfl,?_⟩;exact⟨b10,rfl,hb10,st.res (i:=0) rfl,st.chg⟩
theorem gN8 (e:Ex) (hok:OkE e) (l:List Value) (w:World) (hV:ExV w (·<w.heap.size) e l) (hsg:Sig w) (hlen:(txtE e).length≤1099511627776) :
    Ret Tryz.prog 15 [.agg l.toArray] w fun v w'=>v=.tuple #[str (gS4 e).1,.int .i64 ((gS4 e).2:Int)]∧Chg [] w w':=by
 refine zB [_] func15 rfl ntmps15 rfl ?_;have st:=St.init w [];obtain⟨w0,rfl⟩:∃ w0,w0=w:=⟨_,rfl⟩
 have h0:=hsg.pos;obtain⟨oa,cap,rfl,hr⟩:=ExV.inv hV;refine a2 ?_;refine zA3 (zT2 (l:=[_,_,_,_,_,_]) st rfl rfl rfl rfl ?_);intro b1 w hb1 st;refine a7 ?_;refine yla st 0 [_,_,_,_,_,_] qA42 qZ42 ?_;refine zA3 (zA1 [_,_] rfl rfl call46 rfl (gY _ e rfl 0 (by omega) _ _ (hV.kept st.sm) (hsg.kept st.chg)) ?_);rintro _ w ⟨rfl,cw⟩;replace st:=st.call0 cw;refine a3 ?_;refine vif ?_ ?_;intro hc7;(try simp only [dn] at hc7);refine a8 ?_;refine zG3 st (.inl rfl) results15 (.tmp rfl) (.tmp rfl) ?_;refine⟨_,rfl,?_⟩;refine⟨?_,st.chg⟩;unfold gS4;rw [if_neg (by simp_all)];rfl;intro hc7;(try simp only [dn] at hc7);refine a4 ?_;refine yla st 0 [_,_,_,_,_,_] qA42 qZ42 ?_;refine zA3 (zA1 [_,_] rfl rfl call47 rfl (gW0 _ e rfl 0 (by assumption) hok (.slice none 0 0) [] _ _ (hV.kept st.sm) (World.ownsRow_nil _ 0 5 1) (fun k hk=>by simp [Value.ownBlock] at hk) st.chg.size h0 (hsg.kept st.chg) (by simpa using hlen)) ?_);rintro r w ⟨l2,hp,hT⟩;obtain⟨o2,c2,hv2⟩:=zJ3 hp.1;subst hv2;replace st:=st.call0 (by simpa [Value.ownBlock] using hp.2.1);obtain⟨t1,t2,-,-⟩:=hT;simp only [List.length_nil,Nat.zero_add,List.nil_append] at t1 t2;refine a7 ?_;refine vy (zB1 rfl qU78) ?_;refine a3 ?_;refine vif ?_ ?_;intro hc12;(try simp only [dn] at hc12);refine a8 ?_;refine zG3 st (.inl rfl) results15 (.tmp rfl) (.tmp rfl) ?_;refine⟨_,rfl,?_⟩;refine⟨?_,st.chg⟩
 have hlong:65536<(txtE e).length:=by
  rcases Nat.lt_or_ge 65536 (txtE e).length with h|h
  ·exact h
  ·rw [t1 h] at *;omega
 unfold gS4;rw [if_pos (by assumption),if_neg (by omega)];rfl;intro hc12;(try simp only [dn] at hc12);refine a5 ?_;refine vy (qY5 rfl (p:=l2) (gA hp.1) rfl qU78 qU5 qU9) ?_;refine a5 ?_;refine zG3 st (.inl rfl) results15 (.tmp rfl) (.tmp rfl) ?_;refine⟨_,rfl,?_⟩;refine⟨?_,st.chg⟩
 have hshort:(txtE e).length≤65536:=by
  rcases Nat.lt_or_ge 65536 (txtE e).length with h|h
  ·have:=t2 h;omega
  ·exact h
 unfold gS4;rw [if_pos (by assumption),if_pos hshort,t1 hshort];rfl
def eA:Ex:=opE 2 (zU2 [97]) (opE 2 (zU2 [98]) (zU2 [99]))
def eB:Ex:=opE 1 (zU2 [97]) (opE 3 (zU2 [98]) (zU2 [99]))
theorem jE3:gS4 eA=([97,32,45,32,40,98,32,45,32,99,41],0):=by kernel_rfl
theorem jE7:gS4 eB=([97,32,43,32,98,32,42,32,99],0):=by kernel_rfl
def sK:Sm:=.mk 7 [] [] [] [] [] 0
def pA:Pg:=⟨[⟨[120],-3,0⟩],[],[⟨[116],[],[sK],0⟩]⟩
def pB:Pg:=⟨[],[⟨[105,102],0,0⟩],[]⟩
theorem jC:zY6 pA=([115,104,97,114,101,100,32,120,32,61,32,45,51,59,10,116,104,114,101,97,100,32,116,32,123,10,32,32,115,107,105,112,59,10,125,10],0):=by kernel_rfl
theorem jE9:zY6 pB=([],40):=by kernel_rfl
theorem len_A:(pgT pA).length≤1099511627776:=by decide
theorem len_B:(pgT pB).length≤1099511627776:=by decide
theorem kC (s:List UInt8):OkE (zU2 s):=.mk (by simp [u8]) (by simp [u8]) (by simp [i64]) (by simp [i64]) (by simp) (fun j x h=>by simp at h)
theorem kZ9 {op:Int} {x y:Ex} (ho:u8 op) (hx:OkE x) (hy:OkE y):OkE (opE op x y):=.mk (by simp [u8]) ho (by simp [i64]) (by simp [i64]) (by simp) (fun j z h=>by
  match j,h with
  | 0,h=>simp at h;subst h;exact hx
  | 1,h=>simp at h;subst h;exact hy
  | j+2,h=>simp at h)
theorem eA_ok:OkE eA:=kZ9 (by simp [u8]) (kC _) (kZ9 (by simp [u8]) (kC _) (kC _))
theorem eB_ok:OkE eB:=kZ9 (by simp [u8]) (kC _) (kZ9 (by simp [u8]) (kC _) (kC _))
theorem sK_ok:OkS sK:=.mk (by simp [u8]) (by simp [i64]) ⟨by simp,fun j x h=>by simp at h⟩ (by simp) (fun j x h=>by simp at h) (by simp) (fun j x h=>by simp at h)
theorem pA_ok:OkP pA:=by
 refine⟨⟨by decide,fun j x h=>?_⟩,⟨by decide,fun j x h=>by simp [pA] at h⟩,⟨by decide,fun j t h=>?_⟩⟩
 match j,h with
 | 0,h=>simp [pA] at h;subst h;simp [i64]
 | j+1,h=>simp [pA] at h
 match j,h with
 | 0,h=>
  simp [pA] at h;subst h
  refine⟨⟨by simp,fun j x h=>by simp at h⟩,⟨by simp,fun j x h=>?_⟩,by simp [i64]⟩
  match j,h with
  | 0,h=>simp at h;subst h;exact sK_ok
  | j+1,h=>simp at h
 | j+1,h=>simp [pA] at h
theorem pB_ok:OkP pB:=by
 refine⟨⟨by decide,fun j x h=>by simp [pB] at h⟩,⟨by decide,fun j x h=>?_⟩,⟨by decide,fun j t h=>by simp [pB] at h⟩⟩
 match j,h with
 | 0,h=>simp [pB] at h;subst h;simp [i64]
 | j+1,h=>simp [pB] at h
theorem smV_K (w:World) (S:Nat→Prop):SmV w S sK (smL sK none none none 0 0 0):=.mk (fun _=>[]) (fun _=>[]) ⟨fun _=>[],.inl rfl,fun j x h=>by simp at h⟩ (.inl rfl) (fun j x h=>by simp at h) (.inl rfl) (fun j x h=>by simp at h)
set_option maxHeartbeats 2000000 in
theorem kD3 (w:World) (hsg:Sig w):Ret Tryz.prog 9 [] w fun v w'=>v=.bool true∧Chg [] w w':=by
 refine zB [] func9 rfl ntmps9 rfl ?_;have st:=St.init w [];obtain⟨w0,rfl⟩:∃ w0,w0=w:=⟨_,rfl⟩
 refine a7 ?_;refine zA3 (zA1 [_] rfl rfl call33 rfl (zW0 _ _) ?_);rintro _ w ⟨rfl,cw⟩;replace st:=st.call0 cw;refine zA3 (zA1 [_] rfl rfl call33 rfl (zW0 _ _) ?_);rintro _ w ⟨rfl,cw⟩;replace st:=st.call0 cw;refine zA3 (zA1 [_] rfl rfl call33 rfl (zW0 _ _) ?_);rintro _ w ⟨rfl,cw⟩;replace st:=st.call0 cw;refine zA3 (zA1 [_,_,_] rfl rfl call32 rfl (qH4 2 (zU2 [98]) (zU2 [99]) none none 0 0 _) ?_);rintro _ w ⟨d0,rfl,hd0,hh0,cw0⟩;replace st:=st.call0 cw0;refine zA3 (zA1 [_,_,_] rfl rfl call32 rfl (qH4 2 (zU2 [97]) (opE 2 (zU2 [98]) (zU2 [99])) none (some ⟨d0,0,none⟩) 0 2 _) ?_);rintro _ w ⟨d1,rfl,hd1,hh1,cw1⟩;replace st:=st.call0 cw1;refine zA3 (zA1 [_] rfl rfl call15 rfl (gN8 eA eA_ok _ _ (gF8 (op:=2) (x:=zU2 [97]) (y:=opE 2 (zU2 [98]) (zU2 [99])) hh1 (Array.getElem?_eq_some_iff.1 hh1).1 (qI1 _ _ _) (gF8 (cw1.heap hh0 (by simp)) (Array.getElem?_eq_some_iff.1 (cw1.heap hh0 (by simp))).1 (qI1 _ _ _) (qI1 _ _ _))) (hsg.kept st.chg) (by decide)) ?_);rintro _ w ⟨rfl,cw⟩;replace st:=st.call0 cw;rw [jE3];refine a9 ?_;refine zA3 (zA1 [_] rfl rfl call33 rfl (zW0 _ _) ?_);rintro _ w ⟨rfl,cw⟩;replace st:=st.call0 cw;refine zA3 (zA1 [_] rfl rfl call33 rfl (zW0 _ _) ?_);rintro _ w ⟨rfl,cw⟩;replace st:=st.call0 cw;refine zA3 (zA1 [_] rfl rfl call33 rfl (zW0 _ _) ?_);rintro _ w ⟨rfl,cw⟩;replace st:=st.call0 cw;refine zA3 (zA1 [_,_,_] rfl rfl call32 rfl (qH4 3 (zU2 [98]) (zU2 [99]) none none 0 0 _) ?_);rintro _ w ⟨d2,rfl,hd2,hh2,cw2⟩;replace st:=st.call0 cw2;refine zA3 (zA1 [_,_,_] rfl rfl call32 rfl (qH4 1 (zU2 [97]) (opE 3 (zU2 [98]) (zU2 [99])) none (some ⟨d2,0,none⟩) 0 2 _) ?_);rintro _ w ⟨d3,rfl,hd3,hh3,cw3⟩;replace st:=st.call0 cw3;refine zA3 (zA1 [_] rfl rfl call15 rfl (gN8 eB eB_ok _ _ (gF8 (op:=1) (x:=zU2 [97]) (y:=opE 3 (zU2 [98]) (zU2 [99])) hh3 (Array.getElem?_eq_some_iff.1 hh3).1 (qI1 _ _ _) (gF8 (cw3.heap hh2 (by simp)) (Array.getElem?_eq_some_iff.1 (cw3.heap hh2 (by simp))).1 (qI1 _ _ _) (qI1 _ _ _))) (hsg.kept st.chg) (by decide)) ?_);rintro _ w ⟨rfl,cw⟩;replace st:=st.call0 cw;rw [jE7];refine a9 ?_;refine vy (ybd (.agg #[_,_,_]) [(0,_),(1,_)]) ?_;refine zA3 (zI4 (l:=[_,_,_]) st rfl rfl rfl rfl qU23 qZ63 rfl rfl rfl qV63 ?_);intro b27 w hb27 st;refine vy (ybd (.agg #[_,_,_,_,_,_,_]) [(0,_)]) ?_;refine zA3 (zI4 (l:=[_,_,_,_,_,_,_]) st rfl rfl rfl rfl qU65 qZ67 rfl rfl rfl qV67 ?_);intro b29 w hb29 st;refine vy (ybd (.agg #[_,_,_,_]) [(0,_),(2,_)]) ?_;refine zA3 (zI4 (l:=[_,_,_,_]) st rfl rfl rfl rfl qU24 qZ69 rfl rfl rfl qV69 ?_);intro b31 w hb31 st;refine vy (ybd (.agg #[_,_,_]) [(0,_),(2,_)]) ?_
 refine zA3 (zA1 [_] rfl rfl call11 rfl (qK0 pA _ _ _ _ _ _ _ (qT1 (st.res (i:=2) rfl) (Array.getElem?_eq_some_iff.1 (st.res (i:=2) rfl)).1 rfl rfl) (.inl rfl) ⟨fun _=>thL ⟨[116],[],[sK],0⟩ none _ 0 _,qT1 (st.res (i:=0) rfl) (Array.getElem?_eq_some_iff.1 (st.res (i:=0) rfl)).1 rfl rfl,fun j x hj=>by
     match j,hj with
     | 0,hj=>simp [pA] at hj;subst hj;exact⟨none,0,_,_,rfl,.inl rfl,fun _=>smL sK none none none 0 0 0,qT1 (st.res (i:=1) rfl) (Array.getElem?_eq_some_iff.1 (st.res (i:=1) rfl)).1 rfl rfl,fun j x hj=>by
         match j,hj with
         | 0,hj=>simp at hj;subst hj;exact smV_K _ _
         | j+1,hj=>simp at hj⟩
     | j+1,hj=>simp [pA] at hj⟩ pA_ok (hsg.kept st.chg) (fun _=>len_A)) ?_)
 rintro _ w ⟨rfl,cw⟩;replace st:=st.call0 cw;rw [jC];refine a11 ?_;refine vmb ?_ ?_
 focus
  intro hg38;refine a3 ?_;refine vmb ?_ ?_
  focus
   intro hg42;refine a3 ?_;refine vmb ?_ ?_
   focus
    intro hg46;refine a3 ?_;refine vmb ?_ ?_
    focus
     intro hg50;refine a3 ?_;refine vmb ?_ ?_
     focus
      intro hg54;refine a3 ?_;refine vmb ?_ ?_;intro hg58;refine vy (ybd (.agg #[_,_,_]) [(0,_)]) ?_;refine zA3 (zI4 (l:=[_,_,_]) st rfl rfl rfl rfl qU23 qZ63 rfl rfl rfl qV63 ?_);intro b60 w hb60 st;refine vy (ybd (.agg #[_,_,_]) [(1,_)]) ?_;refine zA3 (zA1 [_] rfl rfl call34 rfl (gP pB _ _ _ _ _ _ _ (.inl rfl) (qT1 (st.res (i:=0) rfl) (Array.getElem?_eq_some_iff.1 (st.res (i:=0) rfl)).1 rfl rfl) ⟨fun _=>[],.inl rfl,fun j x hj=>by simp [pB] at hj⟩ pB_ok (hsg.kept st.chg) (fun _=>len_B)) ?_);rintro _ w ⟨rfl,cw⟩;replace st:=st.call0 cw;rw [jE9];refine a2 ?_
      rotate_left
      intro hg58;refine a6 ?_
     rotate_left 2
     intro hg54;refine a10 ?_
    rotate_left 3
    intro hg50;refine a14 ?_
   rotate_left 4
   intro hg46;refine a16 ?_;refine a2 ?_
  rotate_left 5
  intro hg42;refine a16 ?_;refine a6 ?_
 rotate_left 6
 intro hg38;refine a16 ?_;refine a10 ?_
 all_goals
  refine a4 ?_;refine vr1 st results9 ?_
  first|exact⟨rfl,st.chg⟩|(exfalso;simp_all;done)
end
section
variable {n0:Nat}
set_option maxHeartbeats 1000000 in
theorem kB1:∀ (n:Nat) (es:List Ex),szo es=n→gO2 es→∀ (oa:Option Addr) (cap:Nat) (w:World),ExRow w (·<n0) oa es→n0≤w.heap.size→
    Ret Tryz.prog 207 [.slice oa es.length cap] w fun v w'=>∃ oq cq Sq,v=.slice oq es.length cq∧gK5 w' oq cq es Sq∧Nw w.heap.size Sq∧Chg [] w w':=by
 intro n;refine Nat.strongRecOn n fun n ih=>?_
 intro es hn hok oa cap w hr hn0;subst hn;have hle:=hok.1;refine zB [_] func207 rfl ntmps207 rfl ?_;have st:=St.init w [];obtain⟨w0,rfl⟩:∃ w0,w0=w:=⟨_,rfl⟩
 replace st:=St.pushR (r:=.tree [] (fun w=>ExSs 42 w [] [] [])) st (Chg.refl _ _) (zD2 (by simp [ExSs]) (by simp) (fun a b h hk=>h.kept hk)) (by simp [Res.at?]);replace st:=st.ownNil 42 6;refine a14 ?_;refine vy (zB1 rfl qU40) ?_;refine a4 ?_;refine zC (w0:=w0) (M:=[]) (fun (y:Nat×Option Addr×Nat×List Value×List Nat)=>[(3,.slice y.2.1 y.1 y.2.2.1),(6,.slice oa es.length cap),(7,.int .i64 (es.length:Int)),(8,.int .i64 (y.1:Int))]) (fun y=>[.own (.slice y.2.1 y.1 y.2.2.1) 42 6 y.1 y.2.2.2.1,.tree y.2.2.2.2 (fun w=>ExSs 42 w (es.take y.1) y.2.2.2.1 y.2.2.2.2)]) (fun y _=>y.1≤es.length∧Nw w0.heap.size y.2.2.2.2) (fun y=>es.length - y.1) (0,none,0,[],[]) ⟨rfl,rfl,rfl,rfl,trivial⟩ (by simpa using st) ⟨by simp,Nw.nil⟩ ?_;clear st;rintro ⟨j,oj,cj,xs,S⟩ w ⟨hj,hSS⟩ st;dsimp only at *;refine a6 ?_;refine vif ?_ ?_;intro hc9;(try simp only [dn] at hc9);have stK:=st;obtain⟨e,hej⟩:∃ e,es[j]?=some e:=⟨_,List.getElem?_eq_getElem (by omega)⟩
 obtain⟨gb,go,rfl,hgS,hgl,hg⟩:=ExRow.at hr (by omega);obtain⟨o0,c0,hV0,hr0,hc0⟩:=hg j e hej;have hke:=hok.2 j e hej;have hz:=zF2 hej
 have hz2 : szo e.kids < szo es := by have : szo e.kids < szo e := by cases e; exact gO8
                                      omega
 have st:=stK;clear stK;refine a6 ?_;refine vy (zM3 (k:=j) rfl rfl qU40 qZ42 rfl (by omega)) ?_;refine vy (zE6 (exL e o0 c0) rfl qA42 qZ42 rfl (fun i v hi=>st.chg.cell (hc0 i v hi) (by simp))) ?_;refine zA3 (zF8 (l:=[_,_,_,_,_,_]) st rfl rfl qV42 rfl ?_);intro b5 w hb5 st;refine zA3 (zC4 st 0 [_,_,_,_,_,_] qZ42 ?_);intro w st;dsimp only [zA0,wr] at st;refine a4 ?_;refine yfz 4 qU42 qZ40 ?_;refine yl st 0 qA40 ?_;refine zA3 (zA1 [_] rfl rfl call207 rfl (ih _ hz2 e.kids rfl hke.kids _ _ _ (hr0.kept st.sm) (Nat.le_trans hn0 st.chg.size)) ?_);rintro _ w ⟨oq,cq,Sq,rfl,hQ,hN,cw⟩;have hN9:=hN.le st.chg.size;replace st:=St.pushR (r:=.tree Sq (fun w=>gK5 w oq cq e.kids Sq)) st cw (zD2 hQ hQ.lt (fun a b h hk=>h.kept hk)) hN.2;refine yfz 4 qU42 qZ40 ?_;refine zA3 (est st 1 qZ40 ?_);intro w st;dsimp only [zA0,wr] at st;refine a4 ?_;refine yla st 1 [_,_,_,_,_,_] qA42 qZ42 ?_;refine zA3 (zI4 (l:=[_,_,_,_,_,_]) st rfl rfl rfl rfl qU40 qZ42 rfl rfl rfl qV42 ?_);intro b18 w hb18 st;refine zA3 (qE3 (bytes:=64) st 3 0 rfl rfl rfl rfl rfl rfl qU40 Tryz.info42 rfl rfl rfl rfl rfl (by simp) rfl rfl (by unfold maxLen;omega) (by omega) ?_);intro oaQ capQ w st;dsimp only [zA0] at st;refine a5 ?_;have hne:∀ b∈S,b∉Sq:=fun b hb=>st.ne (i:=4) (j:=1) (by decide) rfl rfl b hb
 have stN:=st.pick [4,1,3] rfl (by decide);have h1:=(stN.res (i:=0) rfl).1;have h2:=(stN.res (i:=1) rfl).1;have h3:ExSs 42 w (es.take (j+1)) (xs++exL e oq cq) (S++Sq):=by rw [zW6 hej];exact ExSs.snoc h1 (ExS_iff.2 ⟨oq,cq,rfl,h2⟩)
 replace stN:=(stN.join (q:=.tree (S++Sq) fun w=>ExSs 42 w (es.take (j+1)) (xs++exL e oq cq) (S++Sq)) (fun k hk=>List.mem_append.1 hk) (zD2 h3 h3.lt (fun a b h hk=>h.kept hk))).pick [1,0] rfl (by decide);refine vy (yin ((j+1:Nat):Int)) ?_;refine a2 ?_;refine zA7 (j+1,oaQ,capQ,xs++exL e oq cq,S++Sq)  ⟨rfl,rfl,rfl,rfl,trivial⟩ stN ?_ ?_;exact⟨by dsimp only;omega,hSS.app hN9 hne⟩;dsimp only;omega;intro hc9;(try simp only [dn] at hc9);refine a12 ?_;refine vr1 st results207 ?_;obtain rfl:j=es.length:=by omega
 rw [List.take_length] at st;obtain⟨h1,h2⟩:=st.ownNw (i:=0) rfl;have h3:=(st.res (i:=1) rfl).1;exact⟨oj,cj,obk oj++S,rfl,⟨xs,S,h1,rfl,h3⟩,h2.app hSS (fun b hb=>st.ne (i:=0) (j:=1) (by decide) rfl rfl b (by simpa [Res.at?,zE8] using hb)),st.chg⟩
set_option maxHeartbeats 1000000 in
theorem gZ8:∀ (n:Nat) (es:List Sm),szo es=n→qO es→∀ (oa:Option Addr) (cap:Nat) (w:World),SmRow w (·<n0) oa es→n0≤w.heap.size→
    Ret Tryz.prog 158 [.slice oa es.length cap] w fun v w'=>∃ oq cq Sq,v=.slice oq es.length cq∧qT0 w' oq cq es Sq∧Nw w.heap.size Sq∧Chg [] w w':=by
 intro n;refine Nat.strongRecOn n fun n ih=>?_
 intro es hn hok oa cap w hr hn0;subst hn;have hle:=hok.1;refine zB [_] func158 rfl ntmps158 rfl ?_;have st:=St.init w [];obtain⟨w0,rfl⟩:∃ w0,w0=w:=⟨_,rfl⟩
 replace st:=St.pushR (r:=.tree [] (fun w=>SmSs 42 67 w [] [] [])) st (Chg.refl _ _) (zD2 (by simp [SmSs]) (by simp) (fun a b h hk=>h.kept hk)) (by simp [Res.at?]);replace st:=st.ownNil 67 7;refine a14 ?_;refine vy (zB1 rfl qU65) ?_;refine a4 ?_;refine zC (w0:=w0) (M:=[]) (fun (y:Nat×Option Addr×Nat×List Value×List Nat)=>[(3,.slice y.2.1 y.1 y.2.2.1),(6,.slice oa es.length cap),(7,.int .i64 (es.length:Int)),(8,.int .i64 (y.1:Int))]) (fun y=>[.own (.slice y.2.1 y.1 y.2.2.1) 67 7 y.1 y.2.2.2.1,.tree y.2.2.2.2 (fun w=>SmSs 42 67 w (es.take y.1) y.2.2.2.1 y.2.2.2.2)]) (fun y _=>y.1≤es.length∧Nw w0.heap.size y.2.2.2.2) (fun y=>es.length - y.1) (0,none,0,[],[]) ⟨rfl,rfl,rfl,rfl,trivial⟩ (by simpa using st) ⟨by simp,Nw.nil⟩ ?_;clear st;rintro ⟨j,oj,cj,xs,S⟩ w ⟨hj,hSS⟩ st;dsimp only at *;refine a6 ?_;refine vif ?_ ?_;intro hc9;(try simp only [dn] at hc9);have stK:=st;obtain⟨s,hsj⟩:∃ s,es[j]?=some s:=⟨_,List.getElem?_eq_getElem (by omega)⟩
 obtain⟨gb,go,rfl,hgS,hgl,hg⟩:=SmRow.at hr (by omega);obtain⟨oe,ob,ol,ce,cb,cl,hsV,hse,hsb,hsl,hc⟩:=hg j s hsj;have hks:=hok.2 j s hsj;have hz:=zF2 hsj
 have hB : szo s.body < szo es := by have : szo s.body < szo s := by cases s; exact sm_size.1
                                     omega
 have hL : szo s.els < szo es := by have : szo s.els < szo s := by cases s; exact sm_size.2
                                    omega
 have st:=stK;clear stK;refine a6 ?_;refine vy (zM3 (k:=j) rfl rfl qU65 qZ67 rfl (by omega)) ?_;refine vy (zE6 (smL s oe ob ol ce cb cl) rfl qA67 qZ67 rfl (fun i v hi=>st.chg.cell (hc i v hi) (by simp))) ?_;refine zA3 (zF8 (l:=[_,_,_,_,_,_,_]) st rfl rfl qV67 rfl ?_);intro b5 w hb5 st;refine zA3 (zC4 st 0 [_,_,_,_,_,_,_] qZ67 ?_);intro w st;dsimp only [zA0,wr] at st;refine a3 ?_;refine kdr Tryz.mixed [Yt 0,Yt 3,Yt 6,Yt 1,Yt 4,Yt 7,Nt 2,Yt 9,Nt 5,Nt 8,Nt 10,Yt 11,Nt 12,Yt 13,Nt 14] 10 [.blk b5 (.cells (smL s oe ob ol ce cb cl).toArray 67 (0,0))] st ?_;clear st;intro w st hS;refine zB0 rfl rfl rfl rfl (fun _=>hS) (fun w=>(by exact zV8 (k:=3) rfl qU67 rfl rfl qZ40 rfl)) ?_;refine zB0 rfl rfl rfl rfl (fun _=>hS) (fun w=>(by exact zV8 (k:=4) rfl qU67 rfl rfl qZ65 rfl)) ?_;refine zB0 rfl rfl rfl rfl (fun _=>hS) (fun w=>(by exact zV8 (k:=5) rfl qU67 rfl rfl qZ65 rfl)) ?_;refine zE4 rfl rfl rfl rfl hS (fun w st=>qE6 st 0 rfl qA40 rfl rfl) ?_;(iterate 2 refine zE4 rfl rfl rfl rfl hS (fun w st=>qE6 st 0 rfl qA65 rfl rfl) ?_);refine zG7 rfl rfl (zA1 [_] rfl rfl call207 rfl (kB1 _ s.e rfl hks.e _ _ _ (hse.kept st.sm) (Nat.le_trans hn0 st.chg.size)) ?_);rintro _ w ⟨q1,c1,S1,rfl,hQ,hN,cw⟩;have hN1:=hN.le st.chg.size;replace st:=St.pushR (r:=.tree S1 (fun w=>gK5 w q1 c1 s.e S1)) st cw (zD2 hQ hQ.lt (fun a b h hk=>h.kept hk)) hN.2;refine zF0 st.dr ?_;intro hS;refine zB0 rfl rfl rfl rfl (fun _=>hS) (fun w=>(by exact zV8 (k:=3) rfl qU67 rfl rfl qZ40 rfl)) ?_;refine zG7 rfl rfl (zA1 [_] rfl rfl call158 rfl (ih _ hB s.body rfl hks.body _ _ _ (hsb.kept st.sm) (Nat.le_trans hn0 st.chg.size)) ?_);rintro _ w ⟨q2,c2,S2,rfl,hQ,hN,cw⟩;have hN2:=hN.le st.chg.size;replace st:=St.pushR (r:=.tree S2 (fun w=>qT0 w q2 c2 s.body S2)) st cw (zD2 hQ hQ.lt (fun a b h hk=>h.kept hk)) hN.2;refine zF0 st.dr ?_;intro hS;refine zG7 rfl rfl (zA1 [_] rfl rfl call158 rfl (ih _ hL s.els rfl hks.els _ _ _ (hsl.kept st.sm) (Nat.le_trans hn0 st.chg.size)) ?_);rintro _ w ⟨q3,c3,S3,rfl,hQ,hN,cw⟩;have hN3:=hN.le st.chg.size;replace st:=St.pushR (r:=.tree S3 (fun w=>qT0 w q3 c3 s.els S3)) st cw (zD2 hQ hQ.lt (fun a b h hk=>h.kept hk)) hN.2;refine zF0 st.dr ?_;intro hS;refine zG7 rfl rfl (est st 3 qZ40 ?_);intro w st;dsimp only [zA0,wr] at st;refine zJ7 ?_;refine zB0 rfl rfl rfl rfl (fun h=>by cases h) (fun w=>(by exact zV8 (k:=4) rfl qU67 rfl rfl qZ65 rfl)) ?_;refine zG7 rfl rfl (est st 3 qZ65 ?_);intro w st;dsimp only [zA0,wr] at st;refine zJ7 ?_;refine zB0 rfl rfl rfl rfl (fun h=>by cases h) (fun w=>(by exact zV8 (k:=5) rfl qU67 rfl rfl qZ65 rfl)) ?_;refine zG7 rfl rfl (est st 3 qZ65 ?_)
 intro w st;dsimp only [zA0,wr] at st;refine zJ7 ?_;refine zS1 ?_;refine a3 ?_;refine yla st 3 [_,_,_,_,_,_,_] qA67 qZ67 ?_;refine zA3 (zI4 (l:=[_,_,_,_,_,_,_]) st rfl rfl rfl rfl qU65 qZ67 rfl rfl rfl qV67 ?_);intro b26 w hb26 st;refine zA3 (qE3 (bytes:=120) st 5 0 rfl rfl rfl rfl rfl rfl qU65 Tryz.info67 rfl rfl rfl rfl rfl (by simp) rfl rfl (by unfold maxLen;omega) (by omega) ?_);intro oaQ capQ w st;dsimp only [zA0] at st;refine a5 ?_;have d23:=st.ne (i:=2) (j:=1) (by decide) rfl rfl;have d12:=st.ne (i:=3) (j:=2) (by decide) rfl rfl;have d13:=st.ne (i:=3) (j:=1) (by decide) rfl rfl;have dS1:=st.ne (i:=6) (j:=3) (by decide) rfl rfl;have dS2:=st.ne (i:=6) (j:=2) (by decide) rfl rfl;have dS3:=st.ne (i:=6) (j:=1) (by decide) rfl rfl;have hNq:=hN1.app (hN2.app hN3 d23) (fun b hb hb'=>(List.mem_append.1 hb').elim (d12 b hb) (d13 b hb));have hne:∀ b∈S,b∉S1++(S2++S3):=fun b hb hb'=>(List.mem_append.1 hb').elim (dS1 b hb) fun h=>(List.mem_append.1 h).elim (dS2 b hb) (dS3 b hb)
 have h0:=(st.res (i:=6) rfl).1;have h1:=(st.res (i:=3) rfl).1;have h2:=(st.res (i:=2) rfl).1;have h3:=(st.res (i:=1) rfl).1;have h4:SmSs 42 67 w (es.take (j+1)) (xs++smL s q1 q2 q3 c1 c2 c3) (S++(S1++(S2++S3))):=by rw [zW6 hsj];exact SmSs.snoc h0 (SmS_iff.2 ⟨q1,c1,q2,c2,q3,c3,S1,S2,S3,rfl,h1,h2,h3,rfl⟩)
 have stN:=(((st.pick [6,3,2,1,5] rfl (by decide)).joinN 4 (q:=.tree (S++(S1++(S2++S3))) fun w=>SmSs 42 67 w (es.take (j+1)) (xs++smL s q1 q2 q3 c1 c2 c3) (S++(S1++(S2++S3)))) (fun k hk=>by
   simp only [Res.at?,List.mem_append] at hk
   rcases hk with h|h|h|h
   · exact⟨_,.head _,h⟩
   · exact⟨_,.tail _ (.head _),h⟩
   · exact⟨_,.tail _ (.tail _ (.head _)),h⟩
   · exact⟨_,.tail _ (.tail _ (.tail _ (.head _))),h⟩) (zD2 h4 h4.lt (fun a b h hk=>h.kept hk)))).pick [1,0] rfl (by decide)
 refine vy (yin ((j+1:Nat):Int)) ?_;refine a2 ?_;refine zA7 (j+1,oaQ,capQ,xs++smL s q1 q2 q3 c1 c2 c3,S++(S1++(S2++S3)))  ⟨rfl,rfl,rfl,rfl,trivial⟩ stN ?_ ?_;exact⟨by dsimp only;omega,hSS.app hNq hne⟩;dsimp only;omega;intro hc9;(try simp only [dn] at hc9);refine a12 ?_;refine vr1 st results158 ?_;obtain rfl:j=es.length:=by omega
 rw [List.take_length] at st;obtain⟨h1,h2⟩:=st.ownNw (i:=0) rfl;have h3:=(st.res (i:=1) rfl).1;exact⟨oj,cj,obk oj++S,rfl,⟨xs,S,h1,rfl,h3⟩,h2.app hSS (fun b hb=>st.ne (i:=0) (j:=1) (by decide) rfl rfl b (by simpa [Res.at?,zE8] using hb)),st.chg⟩
end
end Go.Proofs.YtnmhlpnapgojjaaGreatDoor
/- Trees with each name and place turned: no program in sight. -/
namespace LexS
open Sx
section
variable (g:List UInt8→List UInt8) (h:Int→Int)
mutual
def trE:Ex→Ex
  | .mk k op wd nm kids a=>.mk k op wd (g nm) (zY2 kids) (h a)
termination_by structural e=>e
def zY2:List Ex→List Ex
  | []=>[]
  | e::r=>trE e::zY2 r
termination_by structural l=>l
end
mutual
def trS:Sm→Sm
  | .mk k nm other e body els a=>.mk k (g nm) (g other) (zY2 g h e) (zY9 body) (zY9 els) (h a)
termination_by structural e=>e
def zY9:List Sm→List Sm
  | []=>[]
  | e::r=>trS e::zY9 r
termination_by structural l=>l
end
def trD (d:Dc):Dc:=⟨g d.nm,d.wd,h d.a⟩
def trT (t:Th):Th:=⟨g t.nm,t.locals.map (trD g h),zY9 g h t.body,h t.a⟩
def trP (p:Pg):Pg:=⟨p.shared.map (trD g h),p.locks.map (trD g h),p.threads.map (trT g h)⟩
end
variable {g:List UInt8→List UInt8} {h:Int→Int}
theorem zV3 (l:List Ex):zY2 g h l=l.map (trE g h):=by
  induction l with
  | nil=>rfl
  | cons x r ih=>simp only [zY2,List.map_cons,ih]
theorem zS9 (l:List Sm):zY9 g h l=l.map (trS g h):=by
  induction l with
  | nil=>rfl
  | cons x r ih=>simp only [zY9,List.map_cons,ih]
theorem jM0 (e:Ex):trE g h e=.mk e.k e.op e.wd (g e.nm) (zY2 g h e.kids) (h e.a):=by cases e;rfl
theorem jL5 (s:Sm):trS g h s=.mk s.k (g s.nm) (g s.other) (zY2 g h s.e) (zY9 g h s.body) (zY9 g h s.els) (h s.a):=by cases s;rfl
def zO2 {α:Type} (f:α→α) (l:List α) (j:Nat):List α:=(l.take j).map f++l.drop j
theorem qL6 {α:Type} {f:α→α} (l:List α):zO2 f l 0=l:=by simp [zO2]
theorem qT5 {α:Type} {f:α→α} (l:List α):zO2 f l l.length=l.map f:=by simp [zO2]
theorem kV1 {α:Type} {f:α→α} (l:List α) (j:Nat):(zO2 f l j).length=l.length:=by simp [zO2];omega
theorem qS9 {α:Type} {f:α→α} {l:List α} {j:Nat} {x:α} (hx:l[j]?=some x):(zO2 f l j)[j]?=some x:=by
  have hj:=(List.getElem?_eq_some_iff.1 hx).1
  unfold zO2
  rw [List.getElem?_append_right (by simp;omega),List.length_map,List.length_take,Nat.min_eq_left (by omega),Nat.sub_self,List.getElem?_drop]
  exact hx
theorem qL5 {α:Type} {f:α→α} {l:List α} {j:Nat} {x:α} (hx:l[j]?=some x):(zO2 f l j).set j (f x)=zO2 f l (j+1):=by
  obtain⟨hj,e⟩:=List.getElem?_eq_some_iff.1 hx
  unfold zO2
  rw [List.set_append_right _ _ (by simp;omega),List.length_map,List.length_take,Nat.min_eq_left (by omega),Nat.sub_self,List.drop_eq_getElem_cons hj,List.set_cons_zero,List.take_succ_eq_append_getElem hj,e]
  simp
end LexS
