/- A part of the proof: contracts of functions and plain laws; each theorem says its own conditions. -/
import Derived.Test.YtnmhlpnapgojjaaGreatDoorPrettyLaidAl
import Derived.Test.YtnmhlpnapgojjaaGreatDoorPrettyLaidK3
import Derived.Test.YtnmhlpnapgojjaaGreatDoorPrettyLaidK2
import Derived.Test.YtnmhlpnapgojjaaGreatDoorPrettyLaidK10
import Derived.Test.YtnmhlpnapgojjaaGreatDoorPrettyLaidK6
import Derived.Test.YtnmhlpnapgojjaaGreatDoorPrettyLaidK1
import Derived.Test.YtnmhlpnapgojjaaGreatDoorPrettyLaidK9
set_option linter.unusedVariables false
set_option linter.unusedSimpArgs false
namespace Go.Proofs.YtnmhlpnapgojjaaGreatDoor
open Go.RowKit Sx LexS _root_.Go.Proofs.Tryz
structure Env where
 g:List UInt8→List UInt8
 h:Int→Int
 fn:Nat
 fa:Nat
 cn:List Value
 ca:List Value
 bn:Nat
 ba:Nat
 be:Nat
 bs:Nat
 E:List Nat
 ψ:World→Prop
namespace Env
def pn (e:Env):Value:=.pointer (some ⟨e.bn,0,none⟩)
def pa (e:Env):Value:=.pointer (some ⟨e.ba,0,none⟩)
def pe (e:Env):Value:=.pointer (some ⟨e.be,0,none⟩)
def ps (e:Env):Value:=.pointer (some ⟨e.bs,0,none⟩)
def in2 (e:Env) (w:World):Prop:=w.heap[e.bn]?=some (.cells [.func (.func e.fn) #[] e.cn.toArray].toArray 95 (0,0))∧w.heap[e.ba]?=some (.cells [.func (.func e.fa) #[] e.ca.toArray].toArray 97 (0,0))∧e.ψ w
def in3 (e:Env) (w:World):Prop:=e.in2 w∧w.heap[e.be]?=some (.cells [.func (.func 119) #[] [e.pn,e.pa,e.pe].toArray].toArray 102 (0,0))
def in4 (e:Env) (w:World):Prop:=e.in3 w∧w.heap[e.bs]?=some (.cells [.func (.func 120) #[] [e.pn,e.pa,e.pe,e.ps].toArray].toArray 103 (0,0))
structure Ok (e:Env):Prop where
 nm:∀ s w,e.ψ w→Ret Tryz.prog e.fn ([]++[str s]++e.cn) w fun v w'=>v=str (e.g s)∧w'=w
 at_:∀ a w,e.ψ w→Ret Tryz.prog e.fa ([]++[.int .i64 a]++e.ca) w fun v w'=>v=.int .i64 (e.h a)∧w'=w
 loc:∀ w w',e.ψ w→(∀ b∈e.E,w'.heap[b]?=w.heap[b]?)→e.ψ w'
 mn:e.bn∈e.E
 ma:e.ba∈e.E
 me:e.be∈e.E
 ms:e.bs∈e.E
 calln:∀ (xs:Array Value) w,(callFunc e.fn xs).run Tryz.prog w=.ok (.enter e.fn xs) w
 calla:∀ (xs:Array Value) w,(callFunc e.fa xs).run Tryz.prog w=.ok (.enter e.fa xs) w
variable {e:Env} {w w':World}
theorem in2.kept (ok:e.Ok) (h:e.in2 w) (hk:∀ b∈e.E,w'.heap[b]?=w.heap[b]?):e.in2 w':=⟨by rw [hk _ ok.mn];exact h.1,by rw [hk _ ok.ma];exact h.2.1,ok.loc _ _ h.2.2 hk⟩
theorem in3.kept (ok:e.Ok) (h:e.in3 w) (hk:∀ b∈e.E,w'.heap[b]?=w.heap[b]?):e.in3 w':=⟨in2.kept ok h.1 hk,by rw [hk _ ok.me];exact h.2⟩
theorem in4.kept (ok:e.Ok) (h:e.in4 w) (hk:∀ b∈e.E,w'.heap[b]?=w.heap[b]?):e.in4 w':=⟨in3.kept ok h.1 hk,by rw [hk _ ok.ms];exact h.2⟩
end Env
section
variable {e:Env} {cap:Nat}
theorem qV6 {oa:Option Addr} {ds:List Dc} {S:List Nat}:Sx.Loc S fun w=>qL3 w oa cap ds S:=qG2 fun a b h hk=>h.kept hk
theorem qY6 {oa:Option Addr} {ds:List Ex} {S:List Nat}:Sx.Loc S fun w=>gK5 w oa cap ds S:=qG2 fun a b h hk=>h.kept hk
theorem qY1 {oa:Option Addr} {ds:List Sm} {S:List Nat}:Sx.Loc S fun w=>qT0 w oa cap ds S:=qG2 fun a b h hk=>h.kept hk
theorem gO0 {oa:Option Addr} {ds:List Th} {S:List Nat}:Sx.Loc S fun w=>kT7 w oa cap ds S:=qG2 fun a b h hk=>h.kept hk
end
section
set_option maxHeartbeats 1000000 in
theorem kL0 (e:Env) (ok:e.Ok) (ds:List Dc) (hn:ds.length≤1099511627776) (oa:Option Addr) (cap:Nat) (S:List Nat) (w:World) (hQ:qL3 w oa cap ds S) (hS:S.Nodup) (hE:e.in2 w) (hEl:∀ b∈e.E,b<w.heap.size) (hd:∀ b∈S,b∉e.E) :
    Ret Tryz.prog 118 ([]++[.slice oa ds.length cap]++[e.pn,e.pa]) w fun v w'=>v=.tuple #[]∧qL3 w' oa cap (ds.map (trD e.g e.h)) S∧Chg S w w':=by
 refine zB [_,_,_] func118 rfl ntmps118 rfl ?_;have st:=St.init w S;clear st;obtain⟨w0,rfl⟩:∃ w0,w0=w:=⟨_,rfl⟩
 have st:=St.two (w:=w0) (φ:=fun w=>qL3 w oa cap ds S) (ψ:=e.in2) hQ hE hQ.lt hEl qV6 (qG2 fun a b h hk=>Env.in2.kept ok h hk) hd;have hSM:∀ k∈S,k∈S∨w0.heap.size≤k:=fun k hk=>.inl hk
 refine a3 ?_;refine vy (zB1 rfl qU23) ?_;refine a4 ?_;refine zC (w0:=w0) (M:=S) (fun (j:Nat)=>[(0,.slice oa ds.length cap),(1,e.pn),(2,e.pa),(6,.int .i64 (ds.length:Int)),(7,.int .i64 (j:Int))]) (fun j=>[.tree S (fun w=>qL3 w oa cap (zO2 (trD e.g e.h) ds j) S),.tree e.E e.in2]) (fun j _=>j≤ds.length) (fun j=>ds.length - j) 0 ⟨rfl,rfl,rfl,rfl,rfl,trivial⟩ (by simpa only [qL6] using st) (by omega) ?_;clear st;rintro j w hj st;refine a6 ?_;refine vif ?_ ?_;intro hc8;(try simp only [dn] at hc8);obtain⟨x,hx⟩:∃ x,ds[j]?=some x:=⟨_,List.getElem?_eq_getElem (by omega)⟩
 have hmx:=qS9 (f:=trD e.g e.h) hx;have stK:=st;obtain⟨b,rfl,hrow,hcells,-,-⟩:=qN4 (st.res (i:=0) rfl).1 hmx;have st:=stK;clear stK
 have hcell0:∀ w,qL3 w (some ⟨b,0,none⟩) cap (zO2 (trD e.g e.h) ds j) S→w.cell? ⟨b,j*3+0,none⟩=some (str x.nm)∧w.cell? ⟨b,j*3+2,none⟩=some (.int .i64 x.a):=fun w h=>by
  obtain⟨b',hb',-,hc,-,-⟩:=qN4 h hmx
  simp only [Option.some.injEq,Addr.mk.injEq,and_true] at hb'
  subst hb'
  exact⟨hc 0 _ rfl,hc 2 _ rfl⟩
 refine a10 ?_;refine kdr Tryz.mixed [Yt 0,Yt 1,Yt 2,Yt 3,Yt 5,Yt 6,Yt 7,Yt 8,Yt 12,Yt 13,Yt 14,Yt 15,Yt 4,Yt 9,Yt 11,Yt 16,Nt 10,Nt 17,Yt 18,Yt 19,Nt 20,Yt 21,Yt 22,Nt 23] 20 [.tree S (fun w=>qL3 w (some ⟨b,0,none⟩) cap (zO2 (trD e.g e.h) ds j) S),.tree e.E e.in2] st ?_;clear st;intro w st hS;(iterate 6 refine km hS ?_);refine zB0 rfl rfl rfl rfl (fun _=>hS) (fun w=>(by exact qA (k:=j) rfl rfl qU23 qZ63 rfl (by omega))) ?_;refine zB0 rfl rfl rfl rfl (fun _=>hS) (fun w=>zC3 rfl qU63 rfl rfl qZ9 rfl) ?_;(iterate 2 refine km hS ?_);refine zB0 rfl rfl rfl rfl (fun _=>hS) (fun w=>(by exact qA (k:=j) rfl rfl qU23 qZ63 rfl (by omega))) ?_;refine zB0 rfl rfl rfl rfl (fun _=>hS) (fun w=>(by exact zU9 (k:=2) rfl qU63 rfl rfl qZ3 rfl)) ?_;refine zE4 rfl rfl rfl rfl hS (fun w st=>zD8 rfl qA95 (zD7 (st.res (i:=1) rfl).1.1 rfl)) ?_;refine zE4 rfl rfl rfl rfl hS (fun w st=>zD8 rfl qA9 (hcell0 _ (st.res (i:=0) rfl).1).1) ?_;refine zE4 rfl rfl rfl rfl hS (fun w st=>zD8 rfl isAgg97 (zD7 (st.res (i:=1) rfl).1.2.1 rfl)) ?_;refine zE4 rfl rfl rfl rfl hS (fun w st=>zD8 rfl qA3 (hcell0 _ (st.res (i:=0) rfl).1).2) ?_;refine zG7 rfl rfl (zJ2 [_] rfl rfl rfl ok.calln rfl (ok.nm x.nm _ (st.res (i:=1) rfl).1.2.2) ?_);rintro _ _ ⟨rfl,rfl⟩;refine zF0 (by exact st) ?_;intro hS;refine zG7 rfl rfl (zJ2 [_] rfl rfl rfl ok.calla rfl (ok.at_ x.a _ (st.res (i:=1) rfl).1.2.2) ?_);rintro _ _ ⟨rfl,rfl⟩;refine zF0 (by exact st) ?_;intro hS;refine zB0 rfl rfl rfl rfl (fun _=>hS) (fun w=>(by exact qA (k:=j) rfl rfl qU23 qZ63 rfl (by omega))) ?_;refine zB0 rfl rfl rfl rfl (fun _=>hS) (fun w=>zC3 rfl qU63 rfl rfl qZ9 rfl) ?_;obtain⟨b1,hb1,r1,c1,s1,-⟩:=qN4 (st.res (i:=0) rfl).1 hmx;simp only [Option.some.injEq,Addr.mk.injEq,and_true] at hb1;subst hb1;refine zG7 rfl rfl (gF5 st 0 (ψ:=fun w=>qL3 w (some ⟨b,0,none⟩) cap ((zO2 (trD e.g e.h) ds j).set j {x with nm:=e.g x.nm}) S) rfl rfl rfl rfl qZ9 rfl r1.mem (hSM _ r1.mem) ⟨_,c1 0 _ rfl⟩ (r1.fz _) (s1 _) qV6 ?_);intro w st;dsimp only [zA0] at st;refine zJ7 ?_;refine zB0 rfl rfl rfl rfl (fun h=>by cases h) (fun w=>(by exact qA (k:=j) rfl rfl qU23 qZ63 rfl (by omega))) ?_;refine zB0 rfl rfl rfl rfl (fun h=>by cases h) (fun w=>(by exact zU9 (k:=2) rfl qU63 rfl rfl qZ3 rfl)) ?_;have hmx2:((zO2 (trD e.g e.h) ds j).set j {x with nm:=e.g x.nm})[j]?=some {x with nm:=e.g x.nm}:=by rw [List.getElem?_set_self (by rw [kV1];omega)]
 obtain⟨b2,hb2,r2,c2,-,s2⟩:=qN4 (st.res (i:=0) rfl).1 hmx2;simp only [Option.some.injEq,Addr.mk.injEq,and_true] at hb2;subst hb2;have hstep:((zO2 (trD e.g e.h) ds j).set j {x with nm:=e.g x.nm}).set j {({x with nm:=e.g x.nm}:Dc) with a:=e.h x.a}=zO2 (trD e.g e.h) ds (j+1):=by rw [List.set_set];exact qL5 (f:=trD e.g e.h) hx
 refine zG7 rfl rfl (gF5 st 0 (ψ:=fun w=>qL3 w (some ⟨b,0,none⟩) cap (zO2 (trD e.g e.h) ds (j+1)) S) rfl rfl rfl rfl qZ3 rfl r2.mem (hSM _ r2.mem) ⟨_,c2 2 _ rfl⟩ (r2.fz _) (hstep▸s2 (e.h x.a)) qV6 ?_);intro w st;dsimp only [zA0] at st;refine zJ7 ?_;refine zS1 ?_;refine a3 ?_;refine vy (yin ((j+1:Nat):Int)) ?_;refine a2 ?_;refine zA7 (j+1)  ⟨rfl,rfl,rfl,rfl,rfl,trivial⟩ st ?_ ?_;omega;omega;intro hc8;(try simp only [dn] at hc8);refine a4 ?_;refine zD4 (.inr rfl) results118 ?_;refine⟨_,rfl,?_⟩;obtain rfl:j=ds.length:=by omega
 rw [qT5] at st;exact⟨rfl,(st.res (i:=0) rfl).1,st.chg⟩
end
end Go.Proofs.YtnmhlpnapgojjaaGreatDoor
namespace Go.Proofs.YtnmhlpnapgojjaaGreatDoor
open Go.RowKit Sx LexS _root_.Go.Proofs.Tryz
theorem qC4 {g:List UInt8→List UInt8} {h:Int→Int} (l:List Ex):(zY2 g h l).length=l.length:=by rw [zV3,List.length_map]
theorem zZ3 {g:List UInt8→List UInt8} {h:Int→Int} (l:List Sm):(zY9 g h l).length=l.length:=by rw [zS9,List.length_map]
def eNA (e:Env) (x:Ex):Ex:=(x.setNm (e.g x.nm)).setAt (e.h x.a)
theorem gH9 (e:Env) (x:Ex):(eNA e x).kids=x.kids:=by cases x;rfl
theorem jD8 (e:Env) (x:Ex):(eNA e x).setKids (zY2 e.g e.h x.kids)=trE e.g e.h x:=by cases x;rfl
theorem zZ8 {α:Type} {l:List α} {j:Nat} {x y:α} (h:l[j]?=some x):(l.set j y)[j]?=some y:=by
 rw [List.getElem?_set_self (List.getElem?_eq_some_iff.1 h).1]
set_option maxHeartbeats 2000000 in
theorem jJ0 (e:Env) (ok:e.Ok):∀ (n:Nat) (es:List Ex),szo es=n→gO2 es→∀ (oa:Option Addr) (cap:Nat) (S:List Nat) (w:World),gK5 w oa cap es S→S.Nodup→e.in3 w→(∀ b∈e.E,b<w.heap.size)→(∀ b∈S,b∉e.E)→
    Ret Tryz.prog 119 ([]++[.slice oa es.length cap]++[e.pn,e.pa,e.pe]) w fun v w'=>v=.tuple #[]∧gK5 w' oa cap (zY2 e.g e.h es) S∧Chg S w w':=by
 intro n;refine Nat.strongRecOn n fun n ih=>?_
 intro es hn hok oa cap S w hQ hSN hE hEl hd;subst hn;have hn:=hok.1;refine zB [_,_,_,_] func119 rfl ntmps119 rfl ?_;have st:=St.init w S;clear st;obtain⟨w0,rfl⟩:∃ w0,w0=w:=⟨_,rfl⟩
 have st:=St.two (w:=w0) (φ:=fun w=>gK5 w oa cap es S) (ψ:=e.in3) hQ hE hQ.lt hEl qY6 (qG2 fun a b h hk=>Env.in3.kept ok h hk) hd;have hSM:∀ k∈S,k∈S∨w0.heap.size≤k:=fun k hk=>.inl hk
 refine a3 ?_;refine vy (zB1 rfl qU40) ?_;refine a4 ?_;refine zC (w0:=w0) (M:=S) (fun (j:Nat)=>[(0,.slice oa es.length cap),(1,e.pn),(2,e.pa),(3,e.pe),(7,.int .i64 (es.length:Int)),(8,.int .i64 (j:Int))]) (fun j=>[.tree S (fun w=>gK5 w oa cap (zO2 (trE e.g e.h) es j) S),.tree e.E e.in3]) (fun j _=>j≤es.length) (fun j=>es.length - j) 0 ⟨rfl,rfl,rfl,rfl,rfl,rfl,trivial⟩ (by simpa only [qL6] using st) (by omega) ?_;clear st;rintro j w hj st;refine a6 ?_;refine vif ?_ ?_;intro hc9;(try simp only [dn] at hc9);obtain⟨x,hx⟩:∃ x,es[j]?=some x:=⟨_,List.getElem?_eq_getElem (by omega)⟩
 have hkx:=hok.2 j x hx;have hz:=zF2 hx;have hz2:szo x.kids<szo es:=by have:=zL1 x;omega
 have hmx:=qS9 (f:=trE e.g e.h) hx;have hm1:((zO2 (trE e.g e.h) es j).set j (x.setNm (e.g x.nm)))[j]?=some (x.setNm (e.g x.nm)):=zZ8 hmx;have hm2:((zO2 (trE e.g e.h) es j).set j (eNA e x))[j]?=some (eNA e x):=zZ8 hmx;have hs12:((zO2 (trE e.g e.h) es j).set j (x.setNm (e.g x.nm))).set j ((x.setNm (e.g x.nm)).setAt (e.h x.a))=(zO2 (trE e.g e.h) es j).set j (eNA e x):=List.set_set ..;have hs23:((zO2 (trE e.g e.h) es j).set j (eNA e x)).set j ((eNA e x).setKids (zY2 e.g e.h x.kids))=zO2 (trE e.g e.h) es (j+1):=by rw [List.set_set,jD8];exact qL5 hx
 have stK:=st;obtain⟨b,o0,c0,S0,rfl,-⟩:=qG5 (st.res (i:=0) rfl).1 hSN hmx;have st:=stK;clear stK
 have hcell0:∀ w,gK5 w (some ⟨b,0,none⟩) cap (zO2 (trE e.g e.h) es j) S→w.cell? ⟨b,j*6+3,none⟩=some (str x.nm)∧w.cell? ⟨b,j*6+5,none⟩=some (.int .i64 x.a):=fun w h=>by
  obtain⟨b',o',c',S',hb',-,hc,-⟩:=qG5 h hSN hmx
  simp only [Option.some.injEq,Addr.mk.injEq,and_true] at hb'
  subst hb'
  exact⟨hc 3 _ rfl,hc 5 _ rfl⟩
 refine a11 ?_;refine kdr Tryz.mixed [Yt 0,Yt 1,Yt 2,Yt 3,Yt 5,Yt 6,Yt 7,Yt 8,Yt 12,Yt 13,Yt 14,Yt 15,Yt 4,Yt 9,Yt 11,Yt 16,Nt 10,Nt 17,Yt 18,Yt 19,Nt 20,Yt 21,Yt 22,Nt 23] 20 [.tree S (fun w=>gK5 w (some ⟨b,0,none⟩) cap (zO2 (trE e.g e.h) es j) S),.tree e.E e.in3] st ?_;clear st;intro w st hS;(iterate 6 refine km hS ?_);refine zB0 rfl rfl rfl rfl (fun _=>hS) (fun w=>(by exact qA (k:=j) rfl rfl qU40 qZ42 rfl (by omega))) ?_;refine zB0 rfl rfl rfl rfl (fun _=>hS) (fun w=>(by exact zU9 (k:=3) rfl qU42 rfl rfl qZ9 rfl)) ?_;(iterate 2 refine km hS ?_);refine zB0 rfl rfl rfl rfl (fun _=>hS) (fun w=>(by exact qA (k:=j) rfl rfl qU40 qZ42 rfl (by omega))) ?_;refine zB0 rfl rfl rfl rfl (fun _=>hS) (fun w=>(by exact zU9 (k:=5) rfl qU42 rfl rfl qZ3 rfl)) ?_;refine zE4 rfl rfl rfl rfl hS (fun w st=>zD8 rfl qA95 (zD7 (st.res (i:=1) rfl).1.1.1 rfl)) ?_;refine zE4 rfl rfl rfl rfl hS (fun w st=>zD8 rfl qA9 (hcell0 _ (st.res (i:=0) rfl).1).1) ?_;refine zE4 rfl rfl rfl rfl hS (fun w st=>zD8 rfl isAgg97 (zD7 (st.res (i:=1) rfl).1.1.2.1 rfl)) ?_;refine zE4 rfl rfl rfl rfl hS (fun w st=>zD8 rfl qA3 (hcell0 _ (st.res (i:=0) rfl).1).2) ?_;refine zG7 rfl rfl (zJ2 [_] rfl rfl rfl ok.calln rfl (ok.nm x.nm _ (st.res (i:=1) rfl).1.1.2.2) ?_);rintro _ _ ⟨rfl,rfl⟩;refine zF0 (by exact st) ?_;intro hS;refine zG7 rfl rfl (zJ2 [_] rfl rfl rfl ok.calla rfl (ok.at_ x.a _ (st.res (i:=1) rfl).1.1.2.2) ?_);rintro _ _ ⟨rfl,rfl⟩;refine zF0 (by exact st) ?_;intro hS;refine zB0 rfl rfl rfl rfl (fun _=>hS) (fun w=>(by exact qA (k:=j) rfl rfl qU40 qZ42 rfl (by omega))) ?_;refine zB0 rfl rfl rfl rfl (fun _=>hS) (fun w=>(by exact zU9 (k:=3) rfl qU42 rfl rfl qZ9 rfl)) ?_;obtain⟨b1,o1,c1,S1,hb1,r1,k1,-,-,-,s1,-⟩:=qG5 (st.res (i:=0) rfl).1 hSN hmx;simp only [Option.some.injEq,Addr.mk.injEq,and_true] at hb1;subst hb1;refine zG7 rfl rfl (gF5 st 0 (ψ:=fun w=>gK5 w (some ⟨b,0,none⟩) cap ((zO2 (trE e.g e.h) es j).set j (x.setNm (e.g x.nm))) S) rfl rfl rfl rfl qZ9 rfl r1.mem (hSM _ r1.mem) ⟨_,k1 3 _ rfl⟩ (r1.fz _) (s1 _) qY6 ?_);intro w st;dsimp only [zA0] at st;refine zJ7 ?_;refine zB0 rfl rfl rfl rfl (fun h=>by cases h) (fun w=>(by exact qA (k:=j) rfl rfl qU40 qZ42 rfl (by omega))) ?_;refine zB0 rfl rfl rfl rfl (fun h=>by cases h) (fun w=>(by exact zU9 (k:=5) rfl qU42 rfl rfl qZ3 rfl)) ?_;obtain⟨b2,o2,c2,S2,hb2,r2,k2,-,-,-,-,s2,-⟩:=qG5 (st.res (i:=0) rfl).1 hSN hm1;simp only [Option.some.injEq,Addr.mk.injEq,and_true] at hb2;subst hb2
 refine zG7 rfl rfl (gF5 st 0 (ψ:=fun w=>gK5 w (some ⟨b,0,none⟩) cap ((zO2 (trE e.g e.h) es j).set j (eNA e x)) S) rfl rfl rfl rfl qZ3 rfl r2.mem (hSM _ r2.mem) ⟨_,k2 5 _ rfl⟩ (r2.fz _) (hs12▸s2 (e.h x.a)) qY6 ?_);intro w st;dsimp only [zA0] at st;refine zJ7 ?_;refine zS1 ?_;refine a1 ?_;refine kdr Tryz.mixed [Yt 1,Yt 2,Yt 3,Yt 4,Yt 0,Nt 5,Nt 6] 6 [.tree S (fun w=>gK5 w (some ⟨b,0,none⟩) cap ((zO2 (trE e.g e.h) es j).set j (eNA e x)) S),.tree e.E e.in3] st ?_;clear st;intro w st hS;(iterate 2 refine km hS ?_);refine zB0 rfl rfl rfl rfl (fun _=>hS) (fun w=>(by exact qA (k:=j) rfl rfl qU40 qZ42 rfl (by omega))) ?_;refine zB0 rfl rfl rfl rfl (fun _=>hS) (fun w=>(by exact zU9 (k:=4) rfl qU42 rfl rfl qZ40 rfl)) ?_;refine zE4 rfl rfl rfl rfl hS (fun w st=>zD8 rfl isAgg102 (zD7 (st.res (i:=1) rfl).1.2 rfl)) ?_;obtain⟨b3,o3,c3,S3,hb3,r3,k3,q3,n3,sub3,-,-,put3⟩:=qG5 (st.res (i:=0) rfl).1 hSN hm2;simp only [Option.some.injEq,Addr.mk.injEq,and_true] at hb3;subst hb3;rw [gH9] at q3;refine zG7 rfl rfl (zU6 rfl rfl ((by exact zD8 rfl qA40 (k3 4 (.slice o3 x.kids.length c3) (by rw [gH9];rfl)))) ?_);refine zF0 (by exact st) ?_;intro hS;refine zG7 rfl rfl (zJ2 [_] rfl rfl rfl call119 rfl (ih _ hz2 x.kids rfl hkx.kids o3 c3 S3 _ q3 n3 (st.res (i:=1) rfl).1 (st.res (i:=1) rfl).2.1 (fun k hk=>hd k (sub3 k hk))) ?_);rintro _ w ⟨rfl,hq,hc⟩;replace st:=st.within (ψ:=fun w=>gK5 w (some ⟨b,0,none⟩) cap (zO2 (trE e.g e.h) es (j+1)) S) hc sub3 hSM (hs23▸put3 w (zY2 e.g e.h x.kids) (by rw [qC4,gH9]) hq hc) qY6;refine zJ7 ?_;refine zS1 ?_;refine a3 ?_;refine vy (yin ((j+1:Nat):Int)) ?_;refine a2 ?_;refine zA7 (j+1)  ⟨rfl,rfl,rfl,rfl,rfl,rfl,trivial⟩ st ?_ ?_;omega;omega;intro hc9;(try simp only [dn] at hc9);refine a4 ?_;refine zD4 (.inr rfl) results119 ?_;refine⟨_,rfl,?_⟩;obtain rfl:j=es.length:=by omega
 rw [qT5,← zV3] at st;exact⟨rfl,(st.res (i:=0) rfl).1,st.chg⟩
def s1 (e:Env) (x:Sm):Sm:=x.setNm (e.g x.nm)
def s2 (e:Env) (x:Sm):Sm:=(s1 e x).setOther (e.g x.other)
def s3 (e:Env) (x:Sm):Sm:=(s2 e x).setAt (e.h x.a)
def s4 (e:Env) (x:Sm):Sm:=(s3 e x).setE (zY2 e.g e.h x.e)
def s5 (e:Env) (x:Sm):Sm:=(s4 e x).setBody (zY9 e.g e.h x.body)
theorem s3_e (e:Env) (x:Sm):(s3 e x).e=x.e:=by cases x;rfl
theorem gR3 (e:Env) (x:Sm):(s4 e x).body=x.body:=by cases x;rfl
theorem kG6 (e:Env) (x:Sm):(s5 e x).els=x.els:=by cases x;rfl
theorem jM8 (e:Env) (x:Sm):(s5 e x).setEls (zY9 e.g e.h x.els)=trS e.g e.h x:=by cases x;rfl
set_option maxHeartbeats 4000000 in
theorem jM5 (e:Env) (ok:e.Ok):∀ (n:Nat) (es:List Sm),szo es=n→qO es→∀ (oa:Option Addr) (cap:Nat) (S:List Nat) (w:World),qT0 w oa cap es S→S.Nodup→e.in4 w→(∀ b∈e.E,b<w.heap.size)→(∀ b∈S,b∉e.E)→
    Ret Tryz.prog 120 ([]++[.slice oa es.length cap]++[e.pn,e.pa,e.pe,e.ps]) w fun v w'=>v=.tuple #[]∧qT0 w' oa cap (zY9 e.g e.h es) S∧Chg S w w':=by
 intro n;refine Nat.strongRecOn n fun n ih=>?_
 intro es hn hok oa cap S w hQ hSN hE hEl hd;subst hn;have hn:=hok.1;refine zB [_,_,_,_,_] func120 rfl ntmps120 rfl ?_;have st:=St.init w S;clear st;obtain⟨w0,rfl⟩:∃ w0,w0=w:=⟨_,rfl⟩
 have st:=St.two (w:=w0) (φ:=fun w=>qT0 w oa cap es S) (ψ:=e.in4) hQ hE hQ.lt hEl qY1 (qG2 fun a b h hk=>Env.in4.kept ok h hk) hd;have hSM:∀ k∈S,k∈S∨w0.heap.size≤k:=fun k hk=>.inl hk
 refine a3 ?_;refine vy (zB1 rfl qU65) ?_;refine a4 ?_;refine zC (w0:=w0) (M:=S) (fun (j:Nat)=>[(0,.slice oa es.length cap),(1,e.pn),(2,e.pa),(3,e.pe),(4,e.ps),(9,.int .i64 (es.length:Int)),(10,.int .i64 (j:Int))]) (fun j=>[.tree S (fun w=>qT0 w oa cap (zO2 (trS e.g e.h) es j) S),.tree e.E e.in4]) (fun j _=>j≤es.length) (fun j=>es.length - j) 0 ⟨rfl,rfl,rfl,rfl,rfl,rfl,rfl,trivial⟩ (by simpa only [qL6] using st) (by omega) ?_;clear st;rintro j w hj st;refine a6 ?_;refine vif ?_ ?_;intro hc11;(try simp only [dn] at hc11);obtain⟨x,hx⟩:∃ x,es[j]?=some x:=⟨_,List.getElem?_eq_getElem (by omega)⟩
 have hkx:=hok.2 j x hx;have hz:=zF2 hx
 have hzB : szo x.body < szo es := by have : szo x.body < szo x := by cases x; exact sm_size.1
                                      omega
 have hzL : szo x.els < szo es := by have : szo x.els < szo x := by cases x; exact sm_size.2
                                     omega
 have hm0:=qS9 (f:=trS e.g e.h) hx;have hm1:((zO2 (trS e.g e.h) es j).set j (s1 e x))[j]?=some (s1 e x):=zZ8 hm0;have hm2:((zO2 (trS e.g e.h) es j).set j (s2 e x))[j]?=some (s2 e x):=zZ8 hm0;have hm3:((zO2 (trS e.g e.h) es j).set j (s3 e x))[j]?=some (s3 e x):=zZ8 hm0;have hm4:((zO2 (trS e.g e.h) es j).set j (s4 e x))[j]?=some (s4 e x):=zZ8 hm0;have hm5:((zO2 (trS e.g e.h) es j).set j (s5 e x))[j]?=some (s5 e x):=zZ8 hm0;have h12:((zO2 (trS e.g e.h) es j).set j (s1 e x)).set j ((s1 e x).setOther (e.g x.other))=((zO2 (trS e.g e.h) es j).set j (s2 e x)):=List.set_set ..;have h23:((zO2 (trS e.g e.h) es j).set j (s2 e x)).set j ((s2 e x).setAt (e.h x.a))=((zO2 (trS e.g e.h) es j).set j (s3 e x)):=List.set_set ..;have h34:((zO2 (trS e.g e.h) es j).set j (s3 e x)).set j ((s3 e x).setE (zY2 e.g e.h x.e))=((zO2 (trS e.g e.h) es j).set j (s4 e x)):=List.set_set ..;have h45:((zO2 (trS e.g e.h) es j).set j (s4 e x)).set j ((s4 e x).setBody (zY9 e.g e.h x.body))=((zO2 (trS e.g e.h) es j).set j (s5 e x)):=List.set_set ..;have h56:((zO2 (trS e.g e.h) es j).set j (s5 e x)).set j ((s5 e x).setEls (zY9 e.g e.h x.els))=zO2 (trS e.g e.h) es (j+1):=by rw [List.set_set,jM8];exact qL5 hx
 have stK:=st;obtain⟨b,_,_,_,_,_,_,_,_,_,rfl,-⟩:=zU0 (st.res (i:=0) rfl).1 hSN hm0;have st:=stK;clear stK
 have hcell0:∀ w,qT0 w (some ⟨b,0,none⟩) cap (zO2 (trS e.g e.h) es j) S→w.cell? ⟨b,j*7+1,none⟩=some (str x.nm)∧w.cell? ⟨b,j*7+2,none⟩=some (str x.other)∧w.cell? ⟨b,j*7+6,none⟩=some (.int .i64 x.a):=fun w h=>by
  obtain⟨b',_,_,_,_,_,_,_,_,_,hb',-,hc,-⟩:=zU0 h hSN hm0
  simp only [Option.some.injEq,Addr.mk.injEq,and_true] at hb'
  subst hb'
  exact⟨hc 1 _ rfl,hc 2 _ rfl,hc 6 _ rfl⟩
 refine a14 ?_;refine vy (qA (k:=j) rfl rfl qU65 qZ67 rfl (by omega)) ?_;refine a4 ?_;refine kdr Tryz.mixed [Yt 0,Yt 1,Yt 2,Yt 4,Yt 5,Yt 6,Yt 10,Yt 11,Yt 12,Yt 16,Yt 17,Yt 18,Yt 3,Yt 7,Yt 9,Yt 13,Yt 15,Yt 19,Nt 8,Nt 14,Nt 20,Yt 21,Yt 22,Nt 23,Yt 24,Yt 25,Nt 26,Yt 27,Yt 28,Nt 29] 23 [.tree S (fun w=>qT0 w (some ⟨b,0,none⟩) cap (zO2 (trS e.g e.h) es j) S),.tree e.E e.in4] st ?_;clear st;intro w st hS;(iterate 4 refine km hS ?_);refine zB0 rfl rfl rfl rfl (fun _=>hS) (fun w=>qF8 rfl) ?_;refine zB0 rfl rfl rfl rfl (fun _=>hS) (fun w=>(by exact zU9 (k:=1) rfl qU67 rfl rfl qZ9 rfl)) ?_;refine km hS ?_;refine zB0 rfl rfl rfl rfl (fun _=>hS) (fun w=>qF8 rfl) ?_;refine zB0 rfl rfl rfl rfl (fun _=>hS) (fun w=>(by exact zU9 (k:=2) rfl qU67 rfl rfl qZ9 rfl)) ?_;refine km hS ?_;refine zB0 rfl rfl rfl rfl (fun _=>hS) (fun w=>qF8 rfl) ?_;refine zB0 rfl rfl rfl rfl (fun _=>hS) (fun w=>(by exact zU9 (k:=6) rfl qU67 rfl rfl qZ3 rfl)) ?_;refine zE4 rfl rfl rfl rfl hS (fun w st=>zD8 rfl qA95 (zD7 (st.res (i:=1) rfl).1.1.1.1 rfl)) ?_;refine zE4 rfl rfl rfl rfl hS (fun w st=>zD8 rfl qA9 (hcell0 _ (st.res (i:=0) rfl).1).1) ?_;refine zE4 rfl rfl rfl rfl hS (fun w st=>zD8 rfl qA95 (zD7 (st.res (i:=1) rfl).1.1.1.1 rfl)) ?_;refine zE4 rfl rfl rfl rfl hS (fun w st=>zD8 rfl qA9 (hcell0 _ (st.res (i:=0) rfl).1).2.1) ?_;refine zE4 rfl rfl rfl rfl hS (fun w st=>zD8 rfl isAgg97 (zD7 (st.res (i:=1) rfl).1.1.1.2.1 rfl)) ?_;refine zE4 rfl rfl rfl rfl hS (fun w st=>zD8 rfl qA3 (hcell0 _ (st.res (i:=0) rfl).1).2.2) ?_;refine zG7 rfl rfl (zJ2 [_] rfl rfl rfl ok.calln rfl (ok.nm x.nm _ (st.res (i:=1) rfl).1.1.1.2.2) ?_);rintro _ _ ⟨rfl,rfl⟩;refine zF0 (by exact st) ?_;intro hS;refine zG7 rfl rfl (zJ2 [_] rfl rfl rfl ok.calln rfl (ok.nm x.other _ (st.res (i:=1) rfl).1.1.1.2.2) ?_);rintro _ _ ⟨rfl,rfl⟩;refine zF0 (by exact st) ?_;intro hS;refine zG7 rfl rfl (zJ2 [_] rfl rfl rfl ok.calla rfl (ok.at_ x.a _ (st.res (i:=1) rfl).1.1.1.2.2) ?_);rintro _ _ ⟨rfl,rfl⟩;refine zF0 (by exact st) ?_;intro hS;refine zB0 rfl rfl rfl rfl (fun _=>hS) (fun w=>qF8 rfl) ?_;refine zB0 rfl rfl rfl rfl (fun _=>hS) (fun w=>(by exact zU9 (k:=1) rfl qU67 rfl rfl qZ9 rfl)) ?_;obtain⟨b1,oe1,ce1,ob1,cb1,ol1,cl1,Se1,Sb1,Sl1,hb1,r1,k1,qe1,qb1,ql1,ne1,nb1,nl1,ue1,ub1,ul1,z1,z2,z3,pe1,pb1,pl1⟩:=zU0 (st.res (i:=0) rfl).1 hSN hm0;simp only [Option.some.injEq,Addr.mk.injEq,and_true] at hb1;subst hb1;refine zG7 rfl rfl (gF5 st 0 (ψ:=fun w=>qT0 w (some ⟨b,0,none⟩) cap ((zO2 (trS e.g e.h) es j).set j (s1 e x)) S) rfl rfl rfl rfl qZ9 rfl r1.mem (hSM _ r1.mem) ⟨_,k1 1 _ rfl⟩ (r1.fz _) (z1 _) qY1 ?_);intro w st;dsimp only [zA0] at st
 refine zJ7 ?_;refine zB0 rfl rfl rfl rfl (fun h=>by cases h) (fun w=>qF8 rfl) ?_;refine zB0 rfl rfl rfl rfl (fun h=>by cases h) (fun w=>(by exact zU9 (k:=2) rfl qU67 rfl rfl qZ9 rfl)) ?_;clear z1 z2 z3;obtain⟨b2,oe2,ce2,ob2,cb2,ol2,cl2,Se2,Sb2,Sl2,hb2,r2,k2,qe2,qb2,ql2,ne2,nb2,nl2,ue2,ub2,ul2,z1,z2,z3,pe2,pb2,pl2⟩:=zU0 (st.res (i:=0) rfl).1 hSN hm1;simp only [Option.some.injEq,Addr.mk.injEq,and_true] at hb2;subst hb2;refine zG7 rfl rfl (gF5 st 0 (ψ:=fun w=>qT0 w (some ⟨b,0,none⟩) cap ((zO2 (trS e.g e.h) es j).set j (s2 e x)) S) rfl rfl rfl rfl qZ9 rfl r2.mem (hSM _ r2.mem) ⟨_,k2 2 _ rfl⟩ (r2.fz _) (h12▸z2 _) qY1 ?_);intro w st;dsimp only [zA0] at st;refine zJ7 ?_;refine zB0 rfl rfl rfl rfl (fun h=>by cases h) (fun w=>qF8 rfl) ?_;refine zB0 rfl rfl rfl rfl (fun h=>by cases h) (fun w=>(by exact zU9 (k:=6) rfl qU67 rfl rfl qZ3 rfl)) ?_;clear z1 z2 z3;obtain⟨b3,oe3,ce3,ob3,cb3,ol3,cl3,Se3,Sb3,Sl3,hb3,r3,k3,qe3,qb3,ql3,ne3,nb3,nl3,ue3,ub3,ul3,z1,z2,z3,pe3,pb3,pl3⟩:=zU0 (st.res (i:=0) rfl).1 hSN hm2;simp only [Option.some.injEq,Addr.mk.injEq,and_true] at hb3;subst hb3;refine zG7 rfl rfl (gF5 st 0 (ψ:=fun w=>qT0 w (some ⟨b,0,none⟩) cap ((zO2 (trS e.g e.h) es j).set j (s3 e x)) S) rfl rfl rfl rfl qZ3 rfl r3.mem (hSM _ r3.mem) ⟨_,k3 6 _ rfl⟩ (r3.fz _) (h23▸z3 _) qY1 ?_);intro w st;dsimp only [zA0] at st;refine zJ7 ?_;refine zS1 ?_;refine a2 ?_;refine kdr Tryz.mixed [Yt 1,Yt 2,Yt 3,Yt 0,Nt 4,Nt 5] 5 [.tree S (fun w=>qT0 w (some ⟨b,0,none⟩) cap ((zO2 (trS e.g e.h) es j).set j (s3 e x)) S),.tree e.E e.in4] st ?_;clear st;intro w st hS;refine km hS ?_;refine zB0 rfl rfl rfl rfl (fun _=>hS) (fun w=>qF8 rfl) ?_;refine zB0 rfl rfl rfl rfl (fun _=>hS) (fun w=>(by exact zU9 (k:=3) rfl qU67 rfl rfl qZ40 rfl)) ?_;refine zE4 rfl rfl rfl rfl hS (fun w st=>zD8 rfl isAgg102 (zD7 (st.res (i:=1) rfl).1.1.2 rfl)) ?_;obtain⟨b4,oe4,ce4,ob4,cb4,ol4,cl4,Se4,Sb4,Sl4,hb4,r4,k4,qe4,qb4,ql4,ne4,nb4,nl4,ue4,ub4,ul4,z1,z2,z3,pe4,pb4,pl4⟩:=zU0 (st.res (i:=0) rfl).1 hSN hm3;simp only [Option.some.injEq,Addr.mk.injEq,and_true] at hb4;subst hb4;rw [s3_e] at qe4;refine zG7 rfl rfl (zU6 rfl rfl ((by exact zD8 rfl qA40 (k4 3 (.slice oe4 x.e.length ce4) (by rw [s3_e];rfl)))) ?_);refine zF0 (by exact st) ?_;intro hS;refine zG7 rfl rfl (zJ2 [_] rfl rfl rfl call119 rfl (jJ0 e ok _ x.e rfl hkx.e oe4 ce4 Se4 _ qe4 ne4 (st.res (i:=1) rfl).1.1 (st.res (i:=1) rfl).2.1 (fun k hk=>hd k (ue4 k hk))) ?_);rintro _ w ⟨rfl,hq,hc⟩;replace st:=st.within (ψ:=fun w=>qT0 w (some ⟨b,0,none⟩) cap ((zO2 (trS e.g e.h) es j).set j (s4 e x)) S) hc ue4 hSM (h34▸pe4 w (zY2 e.g e.h x.e) (by rw [qC4,s3_e]) hq hc) qY1;refine zJ7 ?_;refine zS1 ?_
 refine a2 ?_;refine kdr Tryz.mixed [Yt 1,Yt 2,Yt 3,Yt 0,Nt 4,Nt 5] 5 [.tree S (fun w=>qT0 w (some ⟨b,0,none⟩) cap ((zO2 (trS e.g e.h) es j).set j (s4 e x)) S),.tree e.E e.in4] st ?_;clear st;intro w st hS;refine km hS ?_;refine zB0 rfl rfl rfl rfl (fun _=>hS) (fun w=>qF8 rfl) ?_;refine zB0 rfl rfl rfl rfl (fun _=>hS) (fun w=>(by exact zU9 (k:=4) rfl qU67 rfl rfl qZ65 rfl)) ?_;refine zE4 rfl rfl rfl rfl hS (fun w st=>zD8 rfl isAgg103 (zD7 (st.res (i:=1) rfl).1.2 rfl)) ?_;obtain⟨b5,oe5,ce5,ob5,cb5,ol5,cl5,Se5,Sb5,Sl5,hb5,r5,k5,qe5,qb5,ql5,ne5,nb5,nl5,ue5,ub5,ul5,z1,z2,z3,pe5,pb5,pl5⟩:=zU0 (st.res (i:=0) rfl).1 hSN hm4;simp only [Option.some.injEq,Addr.mk.injEq,and_true] at hb5;subst hb5;rw [gR3] at qb5;refine zG7 rfl rfl (zU6 rfl rfl ((by exact zD8 rfl qA65 (k5 4 (.slice ob5 x.body.length cb5) (by rw [gR3];rfl)))) ?_);refine zF0 (by exact st) ?_;intro hS;refine zG7 rfl rfl (zJ2 [_] rfl rfl rfl call120 rfl (ih _ hzB x.body rfl hkx.body ob5 cb5 Sb5 _ qb5 nb5 (st.res (i:=1) rfl).1 (st.res (i:=1) rfl).2.1 (fun k hk=>hd k (ub5 k hk))) ?_);rintro _ w ⟨rfl,hq,hc⟩;replace st:=st.within (ψ:=fun w=>qT0 w (some ⟨b,0,none⟩) cap ((zO2 (trS e.g e.h) es j).set j (s5 e x)) S) hc ub5 hSM (h45▸pb5 w (zY9 e.g e.h x.body) (by rw [zZ3,gR3]) hq hc) qY1;refine zJ7 ?_;refine zS1 ?_;refine a1 ?_;refine kdr Tryz.mixed [Yt 1,Yt 2,Yt 3,Yt 0,Nt 4,Nt 5] 5 [.tree S (fun w=>qT0 w (some ⟨b,0,none⟩) cap ((zO2 (trS e.g e.h) es j).set j (s5 e x)) S),.tree e.E e.in4] st ?_;clear st;intro w st hS;refine km hS ?_;refine zB0 rfl rfl rfl rfl (fun _=>hS) (fun w=>qF8 rfl) ?_;refine zB0 rfl rfl rfl rfl (fun _=>hS) (fun w=>(by exact zU9 (k:=5) rfl qU67 rfl rfl qZ65 rfl)) ?_;refine zE4 rfl rfl rfl rfl hS (fun w st=>zD8 rfl isAgg103 (zD7 (st.res (i:=1) rfl).1.2 rfl)) ?_;obtain⟨b6,oe6,ce6,ob6,cb6,ol6,cl6,Se6,Sb6,Sl6,hb6,r6,k6,qe6,qb6,ql6,ne6,nb6,nl6,ue6,ub6,ul6,z1,z2,z3,pe6,pb6,pl6⟩:=zU0 (st.res (i:=0) rfl).1 hSN hm5;simp only [Option.some.injEq,Addr.mk.injEq,and_true] at hb6;subst hb6;rw [kG6] at ql6;refine zG7 rfl rfl (zU6 rfl rfl ((by exact zD8 rfl qA65 (k6 5 (.slice ol6 x.els.length cl6) (by rw [kG6];rfl)))) ?_);refine zF0 (by exact st) ?_;intro hS;refine zG7 rfl rfl (zJ2 [_] rfl rfl rfl call120 rfl (ih _ hzL x.els rfl hkx.els ol6 cl6 Sl6 _ ql6 nl6 (st.res (i:=1) rfl).1 (st.res (i:=1) rfl).2.1 (fun k hk=>hd k (ul6 k hk))) ?_);rintro _ w ⟨rfl,hq,hc⟩;replace st:=st.within (ψ:=fun w=>qT0 w (some ⟨b,0,none⟩) cap (zO2 (trS e.g e.h) es (j+1)) S) hc ul6 hSM (h56▸pl6 w (zY9 e.g e.h x.els) (by rw [zZ3,kG6]) hq hc) qY1;refine zJ7 ?_;refine zS1 ?_;refine a3 ?_;refine vy (yin ((j+1:Nat):Int)) ?_;refine a2 ?_
 refine zA7 (j+1)  ⟨rfl,rfl,rfl,rfl,rfl,rfl,rfl,trivial⟩ st ?_ ?_;omega;omega;intro hc11;(try simp only [dn] at hc11);refine a4 ?_;refine zD4 (.inr rfl) results120 ?_;refine⟨_,rfl,?_⟩;obtain rfl:j=es.length:=by omega
 rw [qT5,← zS9] at st;exact⟨rfl,(st.res (i:=0) rfl).1,st.chg⟩
section
variable {n0:Nat}
set_option maxHeartbeats 2000000 in
theorem gZ0 (p:Pg) (hok:OkP p) (os ol ot:Option Addr) (cs cl ct:Nat) (w:World) (hSh:DcRow w (·<n0) os p.shared) (hL:DcRow w (·<n0) ol p.locks) (hT:ThRow w (·<n0) ot p.threads) (hn0:n0≤w.heap.size) :
    Ret Tryz.prog 117 [.agg (pgL p os ol ot cs cl ct).toArray] w fun v w'=>∃ l S,v=.agg l.toArray∧PgQ w' p l S∧Nw w.heap.size S∧Chg [] w w':=by
 refine zB [_] func117 rfl ntmps117 rfl ?_;have st:=St.init w [];obtain⟨w0,rfl⟩:∃ w0,w0=w:=⟨_,rfl⟩
 have hn1:=hok.1.1;have hn2:=hok.2.1.1;have hn3:=hok.2.2.1;refine a2 ?_;refine zA3 (zT2 (l:=[_,_,_]) st rfl rfl rfl rfl ?_);intro b1 w hb1 st;refine zA3 (zF8 (l:=[_,_,_]) st rfl rfl qV26 rfl ?_);intro b2 w hb2 st;refine a2 ?_;refine zL2 (w0:=w0) (M:=[]) (fun (z:Option Addr×Nat×Option Addr×Nat×Nat)=>[(1,.pointer (some ⟨b1,0,none⟩)),(2,.pointer (some ⟨b2,0,none⟩)),(3,.pointer (some ⟨z.2.2.2.2,0,none⟩))]) (fun z=>[.blk z.2.2.2.2 (.cells [.slice z.1 p.shared.length z.2.1,.slice z.2.2.1 p.locks.length z.2.2.2.1,.slice none 0 0].toArray 26 (0,0)),.own (.slice z.1 p.shared.length z.2.1) 63 3 p.shared.length (p.shared.flatMap dcL),.own (.slice z.2.2.1 p.locks.length z.2.2.2.1) 63 3 p.locks.length (p.locks.flatMap dcL),.blk b2 (.cells [.slice none 0 0,.slice none 0 0,.slice none 0 0].toArray 26 (0,0)),.blk b1 (.cells (pgL p os ol ot cs cl ct).toArray 26 (0,0))]) (fun z _=>w0.heap.size≤z.2.2.2.2) ?_ ?_
 ·refine ddr Tryz.mixed (.take 0 (.take 1 (.take 3 (.take 4 (.two 2 7 (.two 5 7 (.take 6 (.one 7 (.one 8 .done))) (.one 5 (.take 6 (.one 8 .done)))) (.one 2 (.one 5 (.take 6 (.one 8 .done))))))))) [.blk b2 (.cells [.slice none 0 0,.slice none 0 0,.slice none 0 0].toArray 26 (0,0)),.blk b1 (.cells (pgL p os ol ot cs cl ct).toArray 26 (0,0))] st ?_;clear st;intro w st hS;refine df0 hS qU26 qZ23 ?_;refine dld hS 1 qA23 ?_;refine dfz hS 1 qU26 qZ23 ?_;refine dld hS 1 qA23 ?_;refine zU1 rfl rfl ?_ ?_
  focus
   replace st:=st.ownNil 63 3;refine(qE1 (bytes:=32) (len':=p.shared.length) (ys:=p.shared.flatMap dcL) st 0 rfl rfl rfl rfl rfl (DcRow.rd (S:=(·<n0)) (RowC.kept hSh st.sm)) qU23 Tryz.info63 rfl rfl rfl rfl rfl (zU8 p.shared) (zU7 p.shared) (by unfold maxLen;omega) (by omega) (by omega) (by simp) ?_);intro s1o s1c w st;dsimp only [zA0] at st;refine zB2 st.dr ?_;intro hS;refine zU1 rfl rfl ?_ ?_;replace st:=st.ownNil 63 3;refine(qE1 (bytes:=32) (len':=p.locks.length) (ys:=p.locks.flatMap dcL) st 0 rfl rfl rfl rfl rfl (DcRow.rd (S:=(·<n0)) (RowC.kept hL st.sm)) qU23 Tryz.info63 rfl rfl rfl rfl rfl (zU8 p.locks) (zU7 p.locks) (by unfold maxLen;omega) (by omega) (by omega) (by simp) ?_);intro s2o s2c w st;dsimp only [zA0] at st;refine zB2 st.dr ?_;intro hS;refine zD9 rfl rfl rfl hS (fun w st=>ybd (.agg #[_,_,_]) [(0,_),(1,_)]) ?_;refine zG rfl (zF8 (l:=[_,_,_]) st rfl rfl qV26 rfl ?_);intro b3 w hb3 st;refine zB2 st.dr ?_;intro hS
   rotate_left
   refine(zF8 (l:=[_,_,_]) st rfl rfl qV26 rfl ?_);intro b3 w hb3 st;refine zB2 st.dr ?_;intro hS;replace st:=st.ownNil 63 3;replace st:=st.ownNil 63 3;refine zG rfl (qE1 (bytes:=32) (len':=p.locks.length) (ys:=p.locks.flatMap dcL) st 0 rfl rfl rfl rfl rfl (DcRow.rd (S:=(·<n0)) (RowC.kept hL st.sm)) qU23 Tryz.info63 rfl rfl rfl rfl rfl (zU8 p.locks) (zU7 p.locks) (by unfold maxLen;omega) (by omega) (by omega) (by simp) ?_);intro s2o s2c w st;dsimp only [zA0] at st;refine zB2 st.dr ?_;intro hS;refine zD9 rfl rfl rfl hS (fun w st=>ybd (.agg #[_,_,_]) [(0,_),(1,_)]) ?_
  rotate_left 2
  refine(zF8 (l:=[_,_,_]) st rfl rfl qV26 rfl ?_);intro b3 w hb3 st;refine zB2 st.dr ?_;intro hS;replace st:=st.ownNil 63 3;replace st:=st.ownNil 63 3;refine zG rfl (qE1 (bytes:=32) (len':=p.shared.length) (ys:=p.shared.flatMap dcL) st 0 rfl rfl rfl rfl rfl (DcRow.rd (S:=(·<n0)) (RowC.kept hSh st.sm)) qU23 Tryz.info63 rfl rfl rfl rfl rfl (zU8 p.shared) (zU7 p.shared) (by unfold maxLen;omega) (by omega) (by omega) (by simp) ?_);intro s1o s1c w st;dsimp only [zA0] at st;refine zB2 st.dr ?_;intro hS;replace st:=st.ownNil 63 3;replace st:=st.ownNil 63 3;refine zG rfl (qE1 (bytes:=32) (len':=p.locks.length) (ys:=p.locks.flatMap dcL) st 0 rfl rfl rfl rfl rfl (DcRow.rd (S:=(·<n0)) (RowC.kept hL st.sm)) qU23 Tryz.info63 rfl rfl rfl rfl rfl (zU8 p.locks) (zU7 p.locks) (by unfold maxLen;omega) (by omega) (by omega) (by simp) ?_);intro s2o s2c w st;dsimp only [zA0] at st;refine zB2 st.dr ?_;intro hS;refine zD9 rfl rfl rfl hS (fun w st=>ybd (.agg #[_,_,_]) [(0,_),(1,_)]) ?_
  all_goals
   first
   | refine zG rfl (zC4 st 0 [_,_,_] qZ26 ?_)
   | refine zG rfl (zC4 st 2 [_,_,_] qZ26 ?_)
   | refine zG rfl (zC4 st 4 [_,_,_] qZ26 ?_)
   intro w st;dsimp only [zA0,wr] at st;refine zB2 st.dr ?_;intro hS;refine zV ?_;refine zB8 (s1o,s1c,s2o,s2c,b3) ⟨rfl,rfl,rfl,trivial⟩ (by first|exact st.pick [0,2,1,3,4] rfl (by decide)|exact st.pick [2,3,0,4,5] rfl (by decide)|exact st.pick [4,2,0,5,6] rfl (by decide)) ?_;assumption
 clear st;rintro ⟨s1o,s1c,s2o,s2c,b3⟩ w hb3 st;dsimp only at *;refine a3 ?_;replace st:=St.pushR (r:=.tree [] (fun w=>ThSs 42 67 63 w [] [] [])) st (Chg.refl _ _) (zD2 (by simp [ThSs]) (by simp) (fun a b h hk=>h.kept hk)) (by simp [Res.at?]);replace st:=st.ownNil 69 4;refine yfz 2 qU26 qZ24 ?_;refine yl st 6 qA24 ?_;refine vy (zB1 rfl qU24) ?_;refine a4 ?_;refine zC (w0:=w0) (M:=[]) (fun (y:Nat×Option Addr×Nat×List Value×List Nat)=>[(2,.pointer (some ⟨b2,0,none⟩)),(3,.pointer (some ⟨b3,0,none⟩)),(14,.slice ot p.threads.length ct),(15,.int .i64 (p.threads.length:Int)),(16,.int .i64 (y.1:Int))]) (fun y=>[.own (.slice y.2.1 y.1 y.2.2.1) 69 4 y.1 y.2.2.2.1,.tree y.2.2.2.2 (fun w=>ThSs 42 67 63 w (p.threads.take y.1) y.2.2.2.1 y.2.2.2.2),.blk b3 (.cells [.slice s1o p.shared.length s1c,.slice s2o p.locks.length s2c,.slice y.2.1 y.1 y.2.2.1].toArray 26 (0,0)),.own (.slice s1o p.shared.length s1c) 63 3 p.shared.length (p.shared.flatMap dcL),.own (.slice s2o p.locks.length s2c) 63 3 p.locks.length (p.locks.flatMap dcL),.blk b2 (.cells [.slice none 0 0,.slice none 0 0,.slice none 0 0].toArray 26 (0,0))]) (fun y _=>y.1≤p.threads.length∧Nw w0.heap.size y.2.2.2.2) (fun y=>p.threads.length - y.1) (0,none,0,[],[]) ⟨rfl,rfl,rfl,rfl,rfl,trivial⟩ (by simpa using st.pick [0,1,2,3,4,5] rfl (by decide)) ⟨by simp,Nw.nil⟩ ?_;clear st;rintro ⟨j,oj,cj,xs,S⟩ w ⟨hj,hSS⟩ st;dsimp only at *;refine a6 ?_;refine vif ?_ ?_;intro hc17;(try simp only [dn] at hc17);have stK:=st;obtain⟨t,htj⟩:∃ t,p.threads[j]?=some t:=⟨_,List.getElem?_eq_getElem (by omega)⟩
 obtain⟨gb,go,rfl,hgS,hgl,hg⟩:=ThRow.at hT (by omega);obtain⟨tl,tb,cll,cbb,htl,htb,hc⟩:=hg j t htj;have hkt:=hok.2.2.2 j t htj;have st:=stK;clear stK;refine a6 ?_;refine vy (zM3 (k:=j) rfl rfl qU24 qZ69 rfl (by omega)) ?_;refine vy (zE6 (thL t tl tb cll cbb) rfl qA69 qZ69 rfl (fun i v hi=>st.chg.cell (hc i v hi) (by simp))) ?_;refine zA3 (zF8 (l:=[_,_,_,_]) st rfl rfl qV69 rfl ?_);intro b5 w hb5 st;refine zA3 (zC4 st 0 [_,_,_,_] qZ69 ?_);intro w st;dsimp only [zA0,wr] at st;refine a4 ?_;refine yfz 1 qU69 qZ23 ?_;refine yl st 0 qA23 ?_;replace st:=st.ownNil 63 3;have hn5:=hkt.1.1;refine zA3 (qE1 (bytes:=32) (len':=t.locals.length) (ys:=t.locals.flatMap dcL) st 0 rfl rfl rfl rfl rfl (DcRow.rd (S:=(·<n0)) (RowC.kept htl st.sm)) qU23 Tryz.info63 rfl rfl rfl rfl rfl (zU8 t.locals) (zU7 t.locals) (by unfold maxLen;omega) (by omega) (by omega) (by simp) ?_);intro s3o s3c w st;dsimp only [zA0] at st;refine yfz 1 qU69 qZ23 ?_;refine zA3 (est st 1 qZ23 ?_);intro w st;dsimp only [zA0,wr] at st;refine a4 ?_;refine yfz 2 qU69 qZ65 ?_;refine yl st 1 qA65 ?_;refine zA3 (zA1 [_] rfl rfl call158 rfl (gZ8 _ t.body rfl hkt.2.1 _ _ _ (htb.kept st.sm) (Nat.le_trans hn0 st.chg.size)) ?_);rintro _ w ⟨s4o,s4c,S4,rfl,hQ,hN,cw⟩;have hN4:=hN.le st.chg.size;replace st:=St.pushR (r:=.tree S4 (fun w=>qT0 w s4o s4c t.body S4)) st cw (zD2 hQ hQ.lt (fun a b h hk=>h.kept hk)) hN.2;refine yfz 2 qU69 qZ65 ?_;refine zA3 (est st 2 qZ65 ?_);intro w st;dsimp only [zA0,wr] at st;refine a3 ?_;refine yfz 2 qU26 qZ24 ?_;refine yl st 5 qA24 ?_;refine yla st 2 [_,_,_,_] qA69 qZ69 ?_;refine zA3 (zI4 (l:=[_,_,_,_]) st rfl rfl rfl rfl qU24 qZ69 rfl rfl rfl qV69 ?_);intro b31 w hb31 st;refine zA3 (qE3 (bytes:=72) st 4 0 rfl rfl rfl rfl rfl rfl qU24 Tryz.info69 rfl rfl rfl rfl rfl (by simp) rfl rfl (by unfold maxLen;omega) (by omega) ?_);intro oaQ capQ w st;dsimp only [zA0] at st;refine yfz 2 qU26 qZ24 ?_;refine zA3 (est st 6 qZ24 ?_);intro w st;dsimp only [zA0,wr] at st;refine a4 ?_;obtain⟨h3,hN3⟩:=st.ownNw (i:=2) rfl;have d34:=st.ne (i:=2) (j:=1) (by decide) rfl rfl;simp only [Res.at?,zE8] at d34;have dS3:=st.ne (i:=5) (j:=2) (by decide) rfl rfl;simp only [Res.at?,zE8] at dS3;have dS4:=st.ne (i:=5) (j:=1) (by decide) rfl rfl;have hNq:=hN3.app hN4 d34;have hne:∀ b∈S,b∉obk s3o++S4:=fun b hb hb'=>(List.mem_append.1 hb').elim (dS3 b hb) (dS4 b hb)
 have h0:=(st.res (i:=5) rfl).1;have h4:=(st.res (i:=1) rfl).1;have h5:ThSs 42 67 63 w (p.threads.take (j+1)) (xs++thL t s3o s4o s3c s4c) (S++(obk s3o++S4)):=by rw [zW6 htj];exact ThSs.snoc h0 ⟨s3o,s3c,s4o,s4c,obk s3o,S4,rfl,⟨h3,rfl⟩,h4,rfl⟩
 have stN:=(((st.pick [5,2,1,4,6,7,8,9] rfl (by decide)).joinN 3 (q:=.tree (S++(obk s3o++S4)) fun w=>ThSs 42 67 63 w (p.threads.take (j+1)) (xs++thL t s3o s4o s3c s4c) (S++(obk s3o++S4))) (fun k hk=>by
   simp only [Res.at?,List.mem_append] at hk
   rcases hk with h|h|h
   · exact⟨_,.head _,h⟩
   · exact⟨_,.tail _ (.head _),by simpa [Res.at?,zE8] using h⟩
   · exact⟨_,.tail _ (.tail _ (.head _)),h⟩) (zD2 h5 h5.lt (fun a b h hk=>h.kept hk)))).pick [1,0,2,3,4,5] rfl (by decide)
 refine vy (yin ((j+1:Nat):Int)) ?_;refine a2 ?_;refine zA7 (j+1,oaQ,capQ,xs++thL t s3o s4o s3c s4c,S++(obk s3o++S4))  ⟨rfl,rfl,rfl,rfl,rfl,trivial⟩ stN ?_ ?_;exact⟨by dsimp only;omega,hSS.app hNq hne⟩;dsimp only;omega;intro hc17;(try simp only [dn] at hc17);obtain rfl:j=p.threads.length:=by omega
 rw [List.take_length] at st;refine a7 ?_;refine yla st 2 [_,_,_] qA26 qZ26 ?_;refine zA3 (zC4 st 5 [_,_,_] qZ26 ?_);intro w st;dsimp only [zA0,wr] at st;refine a3 ?_;refine zB7 st (.inl rfl) results117 (by exact .cell 5 rfl rfl qA26 qZ26) ?_;refine⟨_,rfl,?_⟩;obtain⟨h1,h2⟩:=st.ownNw (i:=0) rfl;have h3:=(st.res (i:=1) rfl).1;obtain⟨h4,hN1⟩:=st.ownNw (i:=3) rfl;obtain⟨h5,hN2⟩:=st.ownNw (i:=4) rfl;have e0:=st.ne (i:=0) (j:=1) (by decide) rfl rfl;have e1:=st.ne (i:=3) (j:=4) (by decide) rfl rfl;have e2:=st.ne (i:=3) (j:=0) (by decide) rfl rfl;have e3:=st.ne (i:=3) (j:=1) (by decide) rfl rfl;have e4:=st.ne (i:=4) (j:=0) (by decide) rfl rfl;have e5:=st.ne (i:=4) (j:=1) (by decide) rfl rfl;simp only [Res.at?,zE8] at e0 e1 e2 e3 e4 e5
 exact⟨_,obk s1o++(obk s2o++(obk oj++S)),rfl,⟨s1o,s1c,s2o,s2c,oj,cj,obk s1o,obk s2o,obk oj++S,rfl,⟨h4,rfl⟩,⟨h5,rfl⟩,⟨xs,S,h1,rfl,h3⟩,rfl⟩,
   hN1.app (hN2.app (h2.app hSS e0) (fun b hb hb'=>(List.mem_append.1 hb').elim (e4 b hb) (e5 b hb))) (fun b hb hb'=>(List.mem_append.1 hb').elim (e1 b hb) fun h=>(List.mem_append.1 h).elim (e2 b hb) (e3 b hb)),st.chg⟩
end
def t1 (e:Env) (x:Th):Th:=x.setNm (e.g x.nm)
def t2 (e:Env) (x:Th):Th:=(t1 e x).setAt (e.h x.a)
def t3 (e:Env) (x:Th):Th:=(t2 e x).setLocals (x.locals.map (trD e.g e.h))
structure Fns where
 g:List UInt8→List UInt8
 h:Int→Int
 fn:Nat
 fa:Nat
 cn:List Value
 ca:List Value
 E:List Nat
 ψ:World→Prop
structure Fns.Ok (f:Fns):Prop where
 nm:∀ s w,f.ψ w→Ret Tryz.prog f.fn ([]++[str s]++f.cn) w fun v w'=>v=str (f.g s)∧w'=w
 at_:∀ a w,f.ψ w→Ret Tryz.prog f.fa ([]++[.int .i64 a]++f.ca) w fun v w'=>v=.int .i64 (f.h a)∧w'=w
 loc:∀ w w',f.ψ w→(∀ b∈f.E,w'.heap[b]?=w.heap[b]?)→f.ψ w'
 calln:∀ (xs:Array Value) w,(callFunc f.fn xs).run Tryz.prog w=.ok (.enter f.fn xs) w
 calla:∀ (xs:Array Value) w,(callFunc f.fa xs).run Tryz.prog w=.ok (.enter f.fa xs) w
def Fns.env (f:Fns) (bn ba be bs:Nat):Env:=⟨f.g,f.h,f.fn,f.fa,f.cn,f.ca,bn,ba,be,bs,bn::ba::be::bs::f.E,f.ψ⟩
theorem Fns.Ok.env {f:Fns} (ok:f.Ok) (bn ba be bs:Nat):(f.env bn ba be bs).Ok:=
 ⟨ok.nm,ok.at_,fun w w' h hk=>ok.loc w w' h fun b hb=>hk b (by simp [Fns.env,hb]),by simp [Fns.env],by simp [Fns.env],by simp [Fns.env],by simp [Fns.env],ok.calln,ok.calla⟩
set_option maxHeartbeats 4000000 in
theorem kB5 (f:Fns) (ok:f.Ok) {n0:Nat} (p:Pg) (hok:OkP p) (os ol ot:Option Addr) (cs cl ct:Nat) (w:World) (hSh:DcRow w (·<n0) os p.shared) (hL:DcRow w (·<n0) ol p.locks) (hT:ThRow w (·<n0) ot p.threads) (hn0:n0≤w.heap.size) (hψ0:f.ψ w) (hE0:∀ b∈f.E,b<w.heap.size) :
    Ret Tryz.prog 55 [.agg (pgL p os ol ot cs cl ct).toArray,.func (.func f.fn) #[] f.cn.toArray,.func (.func f.fa) #[] f.ca.toArray] w fun v w'=>∃ l S,v=.agg l.toArray∧PgQ w' (trP f.g f.h p) l S∧Nw w.heap.size S∧Chg [] w w':=by
 refine zB [_,_,_] func55 rfl ntmps55 rfl ?_;have st:=St.init w [];obtain⟨w0,rfl⟩:∃ w0,w0=w:=⟨_,rfl⟩
 have hn1:=hok.1.1;have hn2:=hok.2.1.1;have hn3:=hok.2.2.1;have hψ:∀ {w:World},Chg [] w0 w→f.ψ w:=fun c=>ok.loc _ _ hψ0 fun b hb=>c.block b (hE0 b hb) (by simp)
 refine a2 ?_;refine zA3 (zT2 (l:=[_,_,_]) st rfl rfl rfl rfl ?_);intro b3 w hb3 st;refine zA3 (zT2 (l:=[_]) st rfl rfl rfl rfl ?_);intro b4 w hb4 st;refine zA3 (zT2 (l:=[_]) st rfl rfl rfl rfl ?_);intro b5 w hb5 st;refine zA3 (zF8 (l:=[_,_,_]) st rfl rfl qV26 rfl ?_);intro b6 w hb6 st;refine a4 ?_;refine yla st 3 [_,_,_] qA26 qZ26 ?_;refine zA3 (zA1 [_] rfl rfl call117 rfl (gZ0 p hok _ _ _ _ _ _ _ (RowC.kept hSh st.sm) (RowC.kept hL st.sm) (hT.kept st.sm) (Nat.le_trans hn0 st.chg.size)) ?_);rintro _ w ⟨l,S,rfl,hQ,hN,cw⟩;have hN:=hN;have hN0:=hN.le st.chg.size;have hQ2:=hQ;obtain⟨os1,cs1,ol1,cl1,ot1,ct1,Ss,Sl,Stt,rfl,q1,q2,q3,rfl⟩:=hQ2;replace st:=St.pushR (r:=.tree (Ss++(Sl++Stt)) (fun _=>True)) st cw (zD2 trivial hQ.lt (fun _ _ _ _=>trivial)) hN.2;replace st:=st.split (φ:=fun w=>qL3 w os1 cs1 p.shared Ss) (ψ:=fun _=>True) hN0.1 q1 trivial qV6 (qG2 fun _ _ _ _=>trivial);replace st:=(st.pick [1,0,2,3,4,5] rfl (by decide)).split (φ:=fun w=>qL3 w ol1 cl1 p.locks Sl) (ψ:=fun w=>kT7 w ot1 ct1 p.threads Stt) hN0.right.1 q2 q3 qV6 gO0;replace st:=st.pick [1,2,0,3,4,5,6] rfl (by decide);have hN1:=hN0.left;have hN2:=hN0.right.left;have hN3:=hN0.right.right;have hd12:=hN0.ne;have hd23:=hN0.right.ne;refine zA3 (zF8 (l:=[_,_,_]) st rfl rfl qV26 rfl ?_);intro b7 w hb7 st;refine zA3 (zC4 st 0 [_,_,_] qZ26 ?_);intro w st;dsimp only [zA0,wr] at st;refine a4 ?_;refine vy (qT7 [] [_,_] rfl rfl) ?_;refine a5 ?_;refine zA3 (zF8 (l:=[_]) st rfl rfl zeroValue102 rfl ?_);intro b9 w hb9 st;refine a4 ?_;refine vy (qT7 [] [_,_,_] rfl rfl) ?_;refine zA3 (est st 0 sizeOf102 ?_);intro w st;dsimp only [zA0,wr] at st;refine a4 ?_;refine zA3 (zF8 (l:=[_]) st rfl rfl zeroValue103 rfl ?_);intro b10 w hb10 st;refine a4 ?_;refine vy (qT7 [] [_,_,_,_] rfl rfl) ?_;refine zA3 (est st 0 sizeOf103 ?_);intro w st;dsimp only [zA0,wr] at st;refine a4 ?_;have hok9:=ok.env b4 b5 b9 b10;refine a1 ?_;refine vy (zC3 rfl qU26 rfl rfl qZ23 rfl) ?_;refine yl st 2 qA23 ?_
 refine zA3 (zJ2 [_] rfl rfl rfl call118 rfl (kL0 (f.env b4 b5 b9 b10) hok9 p.shared hn1 os1 cs1 Ss _ (st.res (i:=4) rfl).1 hN1.1 ⟨st.res (i:=8) rfl,st.res (i:=7) rfl,hψ st.chg⟩ (fun k hk=>by
     simp only [Fns.env,List.mem_cons] at hk
     rcases hk with rfl|rfl|rfl|rfl|h
     · exact st.lt (zM (i:=8) rfl) (.head _)
     · exact st.lt (zM (i:=7) rfl) (.head _)
     · exact st.lt (zM (i:=1) rfl) (.head _)
     · exact st.lt (zM (i:=0) rfl) (.head _)
     · exact Nat.lt_of_lt_of_le (hE0 k h) st.chg.size) (fun k hk hk'=>by
     simp only [Fns.env,List.mem_cons] at hk'
     rcases hk' with rfl|rfl|rfl|rfl|h
     · exact st.ne (i:=4) (j:=8) (by decide) rfl rfl _ (hk) (.head _)
     · exact st.ne (i:=4) (j:=7) (by decide) rfl rfl _ (hk) (.head _)
     · exact st.ne (i:=4) (j:=1) (by decide) rfl rfl _ (hk) (.head _)
     · exact st.ne (i:=4) (j:=0) (by decide) rfl rfl _ (hk) (.head _)
     · have:=hE0 k h;have:=hN1.2 k hk;omega)) ?_)
 rintro _ w ⟨rfl,hq,hc⟩;replace st:=st.withinI (i:=4) (fun w=>qL3 w os1 cs1 (p.shared.map (trD f.g f.h)) Ss) rfl hc (fun k hk=>hk) (fun k hk=>.inr (hN1.2 k hk)) hq qV6;dsimp only [zA0] at st;refine a5 ?_;refine yfz 1 qU26 qZ23 ?_;refine yl st 2 qA23 ?_
 refine zA3 (zJ2 [_] rfl rfl rfl call118 rfl (kL0 (f.env b4 b5 b9 b10) hok9 p.locks hn2 ol1 cl1 Sl _ (st.res (i:=5) rfl).1 hN2.1 ⟨st.res (i:=8) rfl,st.res (i:=7) rfl,hψ st.chg⟩ (fun k hk=>by
     simp only [Fns.env,List.mem_cons] at hk
     rcases hk with rfl|rfl|rfl|rfl|h
     · exact st.lt (zM (i:=8) rfl) (.head _)
     · exact st.lt (zM (i:=7) rfl) (.head _)
     · exact st.lt (zM (i:=1) rfl) (.head _)
     · exact st.lt (zM (i:=0) rfl) (.head _)
     · exact Nat.lt_of_lt_of_le (hE0 k h) st.chg.size) (fun k hk hk'=>by
     simp only [Fns.env,List.mem_cons] at hk'
     rcases hk' with rfl|rfl|rfl|rfl|h
     · exact st.ne (i:=5) (j:=8) (by decide) rfl rfl _ (hk) (.head _)
     · exact st.ne (i:=5) (j:=7) (by decide) rfl rfl _ (hk) (.head _)
     · exact st.ne (i:=5) (j:=1) (by decide) rfl rfl _ (hk) (.head _)
     · exact st.ne (i:=5) (j:=0) (by decide) rfl rfl _ (hk) (.head _)
     · have:=hE0 k h;have:=hN2.2 k hk;omega)) ?_)
 rintro _ w ⟨rfl,hq,hc⟩;replace st:=st.withinI (i:=5) (fun w=>qL3 w ol1 cl1 (p.locks.map (trD f.g f.h)) Sl) rfl hc (fun k hk=>hk) (fun k hk=>.inr (hN2.2 k hk)) hq qV6;dsimp only [zA0] at st;refine a5 ?_;refine yfz 2 qU26 qZ24 ?_;refine yl st 2 qA24 ?_;refine vy (zB1 rfl qU24) ?_;refine a4 ?_;refine zC (w0:=w0) (M:=[]) (fun (j:Nat)=>[(4,.pointer (some ⟨b4,0,none⟩)),(5,.pointer (some ⟨b5,0,none⟩)),(6,.pointer (some ⟨b6,0,none⟩)),(7,.pointer (some ⟨b7,0,none⟩)),(8,.func (.func 118) #[] [.pointer (some ⟨b4,0,none⟩),.pointer (some ⟨b5,0,none⟩)].toArray),(10,.pointer (some ⟨b10,0,none⟩)),(28,.int .i64 (p.threads.length:Int)),(29,.int .i64 (j:Int))]) (fun j=>[.tree Stt (fun w=>kT7 w ot1 ct1 (zO2 (trT f.g f.h) p.threads j) Stt),.tree Ss (fun w=>qL3 w os1 cs1 (p.shared.map (trD f.g f.h)) Ss),.tree Sl (fun w=>qL3 w ol1 cl1 (p.locks.map (trD f.g f.h)) Sl),.blk b10 (.cells [.func (.func 120) #[] [.pointer (some ⟨b4,0,none⟩),.pointer (some ⟨b5,0,none⟩),.pointer (some ⟨b9,0,none⟩),.pointer (some ⟨b10,0,none⟩)].toArray].toArray 103 (0,0)),.blk b9 (.cells [.func (.func 119) #[] [.pointer (some ⟨b4,0,none⟩),.pointer (some ⟨b5,0,none⟩),.pointer (some ⟨b9,0,none⟩)].toArray].toArray 102 (0,0)),.blk b7 (.cells [.slice os1 p.shared.length cs1,.slice ol1 p.locks.length cl1,.slice ot1 p.threads.length ct1].toArray 26 (0,0)),.blk b6 (.cells [.slice none 0 0,.slice none 0 0,.slice none 0 0].toArray 26 (0,0)),.blk b5 (.cells [.func (.func f.fa) #[] f.ca.toArray].toArray 97 (0,0)),.blk b4 (.cells [.func (.func f.fn) #[] f.cn.toArray].toArray 95 (0,0))]) (fun j _=>j≤p.threads.length) (fun j=>p.threads.length - j) 0 ⟨rfl,rfl,rfl,rfl,rfl,rfl,rfl,rfl,trivial⟩ (by simpa only [qL6] using st.pick [3,4,5,0,1,2,6,7,8] rfl (by decide)) (by omega) ?_;clear st;rintro j w hj st;refine a6 ?_;refine vif ?_ ?_;intro hc30;(try simp only [dn] at hc30);obtain⟨x,hx⟩:∃ x,p.threads[j]?=some x:=⟨_,List.getElem?_eq_getElem (by omega)⟩
 have hkx:=hok.2.2.2 j x hx;have hm0:=qS9 (f:=trT f.g f.h) hx;have hm1:(((zO2 (trT f.g f.h) p.threads j)).set j (t1 (f.env b4 b5 b9 b10) x))[j]?=some (t1 (f.env b4 b5 b9 b10) x):=zZ8 hm0;have hm2:(((zO2 (trT f.g f.h) p.threads j)).set j (t2 (f.env b4 b5 b9 b10) x))[j]?=some (t2 (f.env b4 b5 b9 b10) x):=zZ8 hm0;have hm3:(((zO2 (trT f.g f.h) p.threads j)).set j (t3 (f.env b4 b5 b9 b10) x))[j]?=some (t3 (f.env b4 b5 b9 b10) x):=zZ8 hm0;have h12:(((zO2 (trT f.g f.h) p.threads j)).set j (t1 (f.env b4 b5 b9 b10) x)).set j ((t1 (f.env b4 b5 b9 b10) x).setAt (f.h x.a))=(((zO2 (trT f.g f.h) p.threads j)).set j (t2 (f.env b4 b5 b9 b10) x)):=List.set_set ..;have h23:(((zO2 (trT f.g f.h) p.threads j)).set j (t2 (f.env b4 b5 b9 b10) x)).set j ((t2 (f.env b4 b5 b9 b10) x).setLocals (x.locals.map (trD f.g f.h)))=(((zO2 (trT f.g f.h) p.threads j)).set j (t3 (f.env b4 b5 b9 b10) x)):=List.set_set ..;have h34:(((zO2 (trT f.g f.h) p.threads j)).set j (t3 (f.env b4 b5 b9 b10) x)).set j ((t3 (f.env b4 b5 b9 b10) x).setBody (zY9 f.g f.h x.body))=zO2 (trT f.g f.h) p.threads (j+1):=by rw [List.set_set];exact qL5 (f:=trT f.g f.h) hx
 have stK:=st;obtain⟨b,_,_,_,_,_,_,rfl,-⟩:=qB3 (st.res (i:=0) rfl).1 hN3.1 hm0;have st:=stK;clear stK
 have hcell0:∀ w,kT7 w (some ⟨b,0,none⟩) ct1 (zO2 (trT f.g f.h) p.threads j) Stt→w.cell? ⟨b,j*4+0,none⟩=some (str x.nm)∧w.cell? ⟨b,j*4+3,none⟩=some (.int .i64 x.a):=fun w h=>by
  obtain⟨b',_,_,_,_,_,_,hb',-,hc,-⟩:=qB3 h hN3.1 hm0
  simp only [Option.some.injEq,Addr.mk.injEq,and_true] at hb'
  subst hb'
  exact⟨hc 0 _ rfl,hc 3 _ rfl⟩
 refine a12 ?_;refine yfz 2 qU26 qZ24 ?_;refine yl st 5 qA24 ?_;refine a1 ?_;refine vy (qA (k:=j) rfl rfl qU24 qZ69 rfl (by omega)) ?_;refine a4 ?_;refine kdr Tryz.mixed [Yt 0,Yt 1,Yt 3,Yt 4,Yt 5,Yt 9,Yt 10,Yt 11,Yt 2,Yt 6,Yt 8,Yt 12,Nt 7,Nt 13,Yt 14,Yt 15,Nt 16,Yt 17,Yt 18,Nt 19] 16 [.tree Stt (fun w=>kT7 w (some ⟨b,0,none⟩) ct1 (zO2 (trT f.g f.h) p.threads j) Stt),.tree Ss (fun w=>qL3 w os1 cs1 (p.shared.map (trD f.g f.h)) Ss),.tree Sl (fun w=>qL3 w ol1 cl1 (p.locks.map (trD f.g f.h)) Sl),.blk b10 (.cells [.func (.func 120) #[] [.pointer (some ⟨b4,0,none⟩),.pointer (some ⟨b5,0,none⟩),.pointer (some ⟨b9,0,none⟩),.pointer (some ⟨b10,0,none⟩)].toArray].toArray 103 (0,0)),.blk b9 (.cells [.func (.func 119) #[] [.pointer (some ⟨b4,0,none⟩),.pointer (some ⟨b5,0,none⟩),.pointer (some ⟨b9,0,none⟩)].toArray].toArray 102 (0,0)),.blk b7 (.cells [.slice os1 p.shared.length cs1,.slice ol1 p.locks.length cl1,.slice (some ⟨b,0,none⟩) p.threads.length ct1].toArray 26 (0,0)),.blk b6 (.cells [.slice none 0 0,.slice none 0 0,.slice none 0 0].toArray 26 (0,0)),.blk b5 (.cells [.func (.func f.fa) #[] f.ca.toArray].toArray 97 (0,0)),.blk b4 (.cells [.func (.func f.fn) #[] f.cn.toArray].toArray 95 (0,0))] st ?_;clear st;intro w st hS;(iterate 3 refine km hS ?_);refine zB0 rfl rfl rfl rfl (fun _=>hS) (fun w=>qF8 rfl) ?_;refine zB0 rfl rfl rfl rfl (fun _=>hS) (fun w=>zC3 rfl qU69 rfl rfl qZ9 rfl) ?_;refine km hS ?_;refine zB0 rfl rfl rfl rfl (fun _=>hS) (fun w=>qF8 rfl) ?_;refine zB0 rfl rfl rfl rfl (fun _=>hS) (fun w=>(by exact zU9 (k:=3) rfl qU69 rfl rfl qZ3 rfl)) ?_;refine zE4 rfl rfl rfl rfl hS (fun w st=>qE6 st 8 rfl qA95 rfl rfl) ?_;refine zE4 rfl rfl rfl rfl hS (fun w st=>zD8 rfl qA9 (hcell0 _ (st.res (i:=0) rfl).1).1) ?_;refine zE4 rfl rfl rfl rfl hS (fun w st=>qE6 st 7 rfl isAgg97 rfl rfl) ?_;refine zE4 rfl rfl rfl rfl hS (fun w st=>zD8 rfl qA3 (hcell0 _ (st.res (i:=0) rfl).1).2) ?_;refine zG7 rfl rfl (zJ2 [_] rfl rfl rfl ok.calln rfl (ok.nm x.nm _ (hψ st.chg)) ?_);rintro _ _ ⟨rfl,rfl⟩;refine zF0 (by exact st) ?_;intro hS;refine zG7 rfl rfl (zJ2 [_] rfl rfl rfl ok.calla rfl (ok.at_ x.a _ (hψ st.chg)) ?_);rintro _ _ ⟨rfl,rfl⟩;refine zF0 (by exact st) ?_;intro hS;refine zB0 rfl rfl rfl rfl (fun _=>hS) (fun w=>qF8 rfl) ?_;refine zB0 rfl rfl rfl rfl (fun _=>hS) (fun w=>zC3 rfl qU69 rfl rfl qZ9 rfl) ?_;obtain⟨c1,om1,cm1,on1,cn1,Sl1,Sb1,hb1,r1,k1,ql1,qb1,nl1,nb1,ul1,ub1,z1,z2,pl1,pb1⟩:=qB3 (st.res (i:=0) rfl).1 hN3.1 hm0;simp only [Option.some.injEq,Addr.mk.injEq,and_true] at hb1;subst hb1
 refine zG7 rfl rfl (gF5 st 0 (ψ:=fun w=>kT7 w (some ⟨b,0,none⟩) ct1 (((zO2 (trT f.g f.h) p.threads j)).set j (t1 (f.env b4 b5 b9 b10) x)) Stt) rfl rfl rfl rfl qZ9 rfl r1.mem (.inr (hN3.2 _ r1.mem)) ⟨_,k1 0 _ rfl⟩ (r1.fz _) (z1 _) gO0 ?_);intro w st;dsimp only [zA0] at st;refine zJ7 ?_;refine zB0 rfl rfl rfl rfl (fun h=>by cases h) (fun w=>qF8 rfl) ?_;refine zB0 rfl rfl rfl rfl (fun h=>by cases h) (fun w=>(by exact zU9 (k:=3) rfl qU69 rfl rfl qZ3 rfl)) ?_;clear z1 z2;obtain⟨c2,om2,cm2,on2,cn2,Sl2,Sb2,hb2,r2,k2,ql2,qb2,nl2,nb2,ul2,ub2,z1,z2,pl2,pb2⟩:=qB3 (st.res (i:=0) rfl).1 hN3.1 hm1;simp only [Option.some.injEq,Addr.mk.injEq,and_true] at hb2;subst hb2;refine zG7 rfl rfl (gF5 st 0 (ψ:=fun w=>kT7 w (some ⟨b,0,none⟩) ct1 (((zO2 (trT f.g f.h) p.threads j)).set j (t2 (f.env b4 b5 b9 b10) x)) Stt) rfl rfl rfl rfl qZ3 rfl r2.mem (.inr (hN3.2 _ r2.mem)) ⟨_,k2 3 _ rfl⟩ (r2.fz _) (h12▸z2 (f.h x.a)) gO0 ?_);intro w st;dsimp only [zA0] at st;refine zJ7 ?_;refine zS1 ?_;refine a3 ?_;clear z1 z2;obtain⟨c3,om3,cm3,on3,cn3,Sl3,Sb3,hb3,r3,k3,ql3,qb3,nl3,nb3,ul3,ub3,z1,z2,pl3,pb3⟩:=qB3 (st.res (i:=0) rfl).1 hN3.1 hm2;simp only [Option.some.injEq,Addr.mk.injEq,and_true] at hb3;subst hb3;refine a3 ?_;refine vy (zU9 (k:=1) rfl qU69 rfl rfl qZ23 rfl) ?_;refine vy (zD8 rfl qA23 (k3 1 _ rfl)) ?_
 refine zA3 (zJ2 [_] rfl rfl rfl call118 rfl (kL0 (f.env b4 b5 b9 b10) hok9 x.locals hkx.1.1 om3 cm3 Sl3 _ ql3 nl3 ⟨st.res (i:=8) rfl,st.res (i:=7) rfl,hψ st.chg⟩ (fun k hk=>by
     simp only [Fns.env,List.mem_cons] at hk
     rcases hk with rfl|rfl|rfl|rfl|h
     · exact st.lt (zM (i:=8) rfl) (.head _)
     · exact st.lt (zM (i:=7) rfl) (.head _)
     · exact st.lt (zM (i:=4) rfl) (.head _)
     · exact st.lt (zM (i:=3) rfl) (.head _)
     · exact Nat.lt_of_lt_of_le (hE0 k h) st.chg.size) (fun k hk hk'=>by
     simp only [Fns.env,List.mem_cons] at hk'
     rcases hk' with rfl|rfl|rfl|rfl|h
     · exact st.ne (i:=0) (j:=8) (by decide) rfl rfl _ (ul3 k hk) (.head _)
     · exact st.ne (i:=0) (j:=7) (by decide) rfl rfl _ (ul3 k hk) (.head _)
     · exact st.ne (i:=0) (j:=4) (by decide) rfl rfl _ (ul3 k hk) (.head _)
     · exact st.ne (i:=0) (j:=3) (by decide) rfl rfl _ (ul3 k hk) (.head _)
     · have:=hE0 k h;have:=hN3.2 k (ul3 k hk);omega)) ?_)
 rintro _ w ⟨rfl,hq,hc⟩;replace st:=st.withinI (i:=0) (fun w=>kT7 w (some ⟨b,0,none⟩) ct1 (((zO2 (trT f.g f.h) p.threads j)).set j (t3 (f.env b4 b5 b9 b10) x)) Stt) rfl hc ul3 (fun k hk=>.inr (hN3.2 k hk)) (h23▸pl3 w (x.locals.map (trD f.g f.h)) (by rw [List.length_map];rfl) hq hc) gO0;dsimp only [zA0] at st;refine a2 ?_;refine kdr Tryz.mixed [Yt 1,Yt 2,Yt 3,Yt 0,Nt 4,Nt 5] 5 [.tree Stt (fun w=>kT7 w (some ⟨b,0,none⟩) ct1 (((zO2 (trT f.g f.h) p.threads j)).set j (t3 (f.env b4 b5 b9 b10) x)) Stt),.tree Ss (fun w=>qL3 w os1 cs1 (p.shared.map (trD f.g f.h)) Ss),.tree Sl (fun w=>qL3 w ol1 cl1 (p.locks.map (trD f.g f.h)) Sl),.blk b10 (.cells [.func (.func 120) #[] [.pointer (some ⟨b4,0,none⟩),.pointer (some ⟨b5,0,none⟩),.pointer (some ⟨b9,0,none⟩),.pointer (some ⟨b10,0,none⟩)].toArray].toArray 103 (0,0)),.blk b9 (.cells [.func (.func 119) #[] [.pointer (some ⟨b4,0,none⟩),.pointer (some ⟨b5,0,none⟩),.pointer (some ⟨b9,0,none⟩)].toArray].toArray 102 (0,0)),.blk b7 (.cells [.slice os1 p.shared.length cs1,.slice ol1 p.locks.length cl1,.slice (some ⟨b,0,none⟩) p.threads.length ct1].toArray 26 (0,0)),.blk b6 (.cells [.slice none 0 0,.slice none 0 0,.slice none 0 0].toArray 26 (0,0)),.blk b5 (.cells [.func (.func f.fa) #[] f.ca.toArray].toArray 97 (0,0)),.blk b4 (.cells [.func (.func f.fn) #[] f.cn.toArray].toArray 95 (0,0))] st ?_;clear st;intro w st hS;refine km hS ?_;refine zB0 rfl rfl rfl rfl (fun _=>hS) (fun w=>qF8 rfl) ?_;refine zB0 rfl rfl rfl rfl (fun _=>hS) (fun w=>(by exact zU9 (k:=2) rfl qU69 rfl rfl qZ65 rfl)) ?_;refine zE4 rfl rfl rfl rfl hS (fun w st=>qE6 st 3 rfl isAgg103 rfl rfl) ?_;clear z1 z2;obtain⟨c4,om4,cm4,on4,cn4,Sl4,Sb4,hb4,r4,k4,ql4,qb4,nl4,nb4,ul4,ub4,z1,z2,pl4,pb4⟩:=qB3 (st.res (i:=0) rfl).1 hN3.1 hm3;simp only [Option.some.injEq,Addr.mk.injEq,and_true] at hb4;subst hb4;refine zG7 rfl rfl (zU6 rfl rfl (zD8 rfl qA65 (k4 2 _ rfl)) ?_);refine zF0 (by exact st) ?_;intro hS
 refine zG7 rfl rfl (zJ2 [_] rfl rfl rfl call120 rfl (jM5 (f.env b4 b5 b9 b10) hok9 _ x.body rfl hkx.2.1 on4 cn4 Sb4 _ qb4 nb4 ⟨⟨⟨st.res (i:=8) rfl,st.res (i:=7) rfl,hψ st.chg⟩,st.res (i:=4) rfl⟩,st.res (i:=3) rfl⟩ (fun k hk=>by
     simp only [Fns.env,List.mem_cons] at hk
     rcases hk with rfl|rfl|rfl|rfl|h
     · exact st.lt (zM (i:=8) rfl) (.head _)
     · exact st.lt (zM (i:=7) rfl) (.head _)
     · exact st.lt (zM (i:=4) rfl) (.head _)
     · exact st.lt (zM (i:=3) rfl) (.head _)
     · exact Nat.lt_of_lt_of_le (hE0 k h) st.chg.size) (fun k hk hk'=>by
     simp only [Fns.env,List.mem_cons] at hk'
     rcases hk' with rfl|rfl|rfl|rfl|h
     · exact st.ne (i:=0) (j:=8) (by decide) rfl rfl _ (ub4 k hk) (.head _)
     · exact st.ne (i:=0) (j:=7) (by decide) rfl rfl _ (ub4 k hk) (.head _)
     · exact st.ne (i:=0) (j:=4) (by decide) rfl rfl _ (ub4 k hk) (.head _)
     · exact st.ne (i:=0) (j:=3) (by decide) rfl rfl _ (ub4 k hk) (.head _)
     · have:=hE0 k h;have:=hN3.2 k (ub4 k hk);omega)) ?_)
 rintro _ w ⟨rfl,hq,hc⟩;replace st:=st.withinI (i:=0) (fun w=>kT7 w (some ⟨b,0,none⟩) ct1 (zO2 (trT f.g f.h) p.threads (j+1)) Stt) rfl hc ub4 (fun k hk=>.inr (hN3.2 k hk)) (h34▸pb4 w (zY9 f.g f.h x.body) (by rw [zZ3];rfl) hq hc) gO0;dsimp only [zA0] at st;refine zJ7 ?_;refine zS1 ?_;refine a3 ?_;refine vy (yin ((j+1:Nat):Int)) ?_;refine a2 ?_;refine zA7 (j+1)  ⟨rfl,rfl,rfl,rfl,rfl,rfl,rfl,rfl,trivial⟩ st ?_ ?_;omega;omega;intro hc30;(try simp only [dn] at hc30);obtain rfl:j=p.threads.length:=by omega
 rw [qT5] at st;refine a7 ?_;refine yla st 5 [_,_,_] qA26 qZ26 ?_;refine zA3 (zC4 st 6 [_,_,_] qZ26 ?_);intro w st;dsimp only [zA0,wr] at st;refine a3 ?_;refine zB7 st (.inl rfl) results55 (by exact .cell 6 rfl rfl qA26 qZ26) ?_;refine⟨_,rfl,?_⟩;exact⟨_,Ss++(Sl++Stt),rfl,⟨os1,cs1,ol1,cl1,ot1,ct1,Ss,Sl,Stt,by simp [trP],(st.res (i:=1) rfl).1,(st.res (i:=2) rfl).1,(st.res (i:=0) rfl).1,rfl⟩,hN0,st.chg⟩
end Go.Proofs.YtnmhlpnapgojjaaGreatDoor
/- How long a tree's text is: no program in sight. -/
namespace LexS
open Sx
theorem qV7 (x:Int) (hx:i64 x):(shw x).length≤20:=by
  have h:(dec x.natAbs).length≤19:=qV 18 _ (by have:=hx.1;have:=hx.2;omega)
  unfold shw
  split <;> simp <;> omega
theorem gQ6 (b:Bool) (l:List UInt8):(par b l).length≤l.length+2:=by
  unfold par
  split <;> simp
theorem kU8:∀ (n:Nat) (e:Ex),SizeOf.sizeOf e=n→OkE e→(txtE e).length≤30*szE e:=by
  intro n
  refine Nat.strongRecOn n fun n ih e hn hok=>?_
  subst hn
  cases e with
  | mk k op wd nm kids a=>
    have hw:=qV7 wd hok.wd
    have ho:=qM3 op
    have hkid:∀ (j:Nat) x,kids[j]?=some x→(txtE x).length≤30*szE x:=fun j x hx=>ih _ (by have:=List.sizeOf_lt_of_mem (List.mem_of_getElem? hx);simp;omega) x rfl (hok.kid (j:=j) hx)
    rcases kids with _|⟨x,_|⟨y,_|⟨z,r⟩⟩⟩
    · simp only [txtE,szE,kA3]
      split
      · omega
      · split
        · omega
        · split <;> simp;omega
    · have h1:=hkid 0 x rfl
      have h2:=gQ6 (decide (x.k=4)) (txtE x)
      simp only [txtE,szE,kA3]
      split
      · omega
      · split
        · omega
        · split
          · simp only [List.length_append];omega
          · simp
    · have h1:=hkid 0 x rfl
      have h2:=gQ6 (inn op x false) (txtE x)
      have h3:=hkid 1 y rfl
      have h4:=gQ6 (inn op y true) (txtE y)
      simp only [txtE,szE,kA3]
      split
      · omega
      · split
        · omega
        · split
          · simp;omega
          · simp only [List.length_append,List.length_cons,List.length_nil];omega
    · simp only [txtE,szE,kA3]
      split
      · omega
      · split
        · omega
        · split <;> simp;omega
theorem jG9 (l:List Ex) (h:gO2 l):(txX l).length≤30*kA3 l:=by
  cases l with
  | nil=>simp [txX]
  | cons x r=>have:=kU8 _ x rfl (h.2 0 x rfl);simp only [txX,kA3];omega
theorem gV4 (d:Nat):(mar d).length=2*d:=by simp [mar]
theorem qF1 {l:List Sm} {d:Nat} (h:∀ s∈l,zH9 s d=true→(qK6 s d).length≤600*szS s) (hr:zE3 l d=true):(zJ6 l d).length≤600*gO3 l:=by
  induction l with
  | nil=>simp [zJ6]
  | cons s r ih=>
    simp only [zE3,Bool.and_eq_true] at hr
    have h1:=h s (by simp) hr.1
    have h2:=ih (fun x hx=>h x (.tail _ hx)) hr.2
    simp only [zJ6,gO3,List.length_append];omega
theorem kY:∀ (n:Nat) (s:Sm),SizeOf.sizeOf s=n→OkS s→∀ d,d≤64→zH9 s d=true→(qK6 s d).length≤600*szS s:=by
  intro n
  refine Nat.strongRecOn n fun n ih s hn hok d hd hr=>?_
  subst hn
  cases s with
  | mk k nm other e body els a=>
    have hx:=jG9 e hok.e
    rw [zH9] at hr
    simp only [Bool.and_eq_true,Bool.or_eq_true,decide_eq_true_eq,Bool.not_eq_true',Bool.or_eq_false_iff,decide_eq_false_iff_not] at hr
    obtain⟨⟨⟨⟨⟨⟨⟨⟨h1,h2⟩,h3⟩,h4⟩,h5⟩,h6⟩,h7⟩,h8⟩,h9⟩:=hr
    have hm:=gV4 d
    have hb:d<64∨(body=[]∧els=[]):=by
      rcases h7 with ⟨q1,q2⟩|h
      · right
        refine⟨?_,List.eq_nil_of_length_eq_zero (by omega)⟩
        rcases h5 with h|h
        · rw [q1] at h;cases h
        · exact List.eq_nil_of_length_eq_zero h
      · exact .inl h
    have hB:(zJ6 body (d+1)).length≤600*gO3 body:=by
      rcases hb with h|⟨rfl,-⟩
      · refine qF1 (fun s hs hr=>?_) h8
        obtain⟨j,hj⟩:=List.mem_iff_getElem?.1 hs
        exact ih _ (by have:=List.sizeOf_lt_of_mem hs;simp;omega) s rfl (hok.body.2 j s hj) (d+1) (by omega) hr
      · simp [zJ6]
    have hL:(zJ6 els (d+1)).length≤600*gO3 els:=by
      rcases hb with h|⟨-,rfl⟩
      · refine qF1 (fun s hs hr=>?_) h9
        obtain⟨j,hj⟩:=List.mem_iff_getElem?.1 hs
        exact ih _ (by have:=List.sizeOf_lt_of_mem hs;simp;omega) s rfl (hok.els.2 j s hj) (d+1) (by omega) hr
      · simp [zJ6]
    rw [qK6,szS]
    split
    · simp only [List.length_append,List.length_cons,List.length_nil];omega
    · split
      · simp only [List.length_append,List.length_cons,List.length_nil];omega
      · split
        · simp only [List.length_append,List.length_cons,List.length_nil];omega
        · split
          · simp only [List.length_append,List.length_cons,List.length_nil];omega
          · split
            · simp only [List.length_append,List.length_cons,List.length_nil];omega
            · have hw:(if k=4 then [119,104,105,108,101,32,40] else [105,102,32,40]:List UInt8).length≤7:=by split <;> simp
              have hz:(if 0<els.length then mar d++[125,32,101,108,115,101,32,123,10]++zJ6 els (d+1) else []:List UInt8).length≤2*d+9+600*gO3 els:=by
                split
                · simp only [List.length_append,List.length_cons,List.length_nil];omega
                · simp
              rw [List.length_append,List.length_append,List.length_append,List.length_append,List.length_append,List.length_append,List.length_append]
              simp only [List.length_cons,List.length_nil]
              omega
theorem kP7 {l:List Sm} {d:Nat} (hok:qO l) (hd:d≤64) (hr:zE3 l d=true):(zJ6 l d).length≤600*gO3 l:=
  qF1 (fun s hs h=>by
    obtain⟨j,hj⟩:=List.mem_iff_getElem?.1 hs
    exact kY _ s rfl (hok.2 j s hj) d hd h) hr
theorem gF:∀ (l:List Dc),(∀ x∈l,i64 x.wd)→(zU (l.map dcT)).length≤30*gV9 l
  | [],_=>by simp [zU]
  | [x],h=>by
    have:=qV7 x.wd (h x (by simp))
    simp only [List.map_cons,List.map_nil,zU,dcT,gV9]
    split <;> simp <;> omega
  | x::y::r,h=>by
    have h0:=qV7 x.wd (h x (by simp))
    have ih:=gF (y::r) (fun z hz=>h z (.tail _ hz))
    simp only [List.map_cons,zU,gV9,List.length_append,List.length_cons,List.length_nil] at ih ⊢
    have:(dcT x).length≤x.nm.length+23:=by unfold dcT;split <;> simp <;> omega
    omega
theorem gI7 (word:List UInt8) (d:Nat) (l:List Dc) (h:OkD l):(gD5 word d l).length≤2*d+word.length+3+30*gV9 l:=by
  have:=gF l (fun x hx=>by obtain⟨j,hj⟩:=List.mem_iff_getElem?.1 hx;exact(h.2 j x hj).1)
  unfold gD5
  split
  · simp
  · simp only [List.length_append,List.length_cons,List.length_nil,gV4];omega
theorem gV2:∀ (l:List Th),(∀ t∈l,OkD t.locals∧qO t.body)→(∀ t∈l,qL2 t=true)→((l.map thT).flatten).length≤600*jA8 l
  | [],_,_=>by simp
  | t::r,h,h2=>by
    obtain⟨q1,q2⟩:=h t (by simp)
    have ih:=gV2 r (fun x hx=>h x (.tail _ hx)) (fun x hx=>h2 x (.tail _ hx))
    have h3:=h2 t (by simp)
    unfold qL2 at h3
    simp only [Bool.and_eq_true] at h3
    have h4:=kP7 q2 (d:=1) (by omega) h3.2
    have h5:=gI7 [108,111,99,97,108] 1 t.locals q1
    simp only [List.map_cons,List.flatten_cons,List.length_append,jA8,thT,List.length_cons,List.length_nil] at h5 ih ⊢
    omega
theorem jC3 (p:Pg) (hok:OkP p) (hp:qD4 p=true):(pgT p).length≤100+600*szP p:=by
  obtain⟨h1,h2,h3⟩:=hok
  unfold qD4 at hp
  simp only [Bool.and_eq_true] at hp
  have a1:=gI7 [115,104,97,114,101,100] 0 p.shared h1
  have a2:=gI7 [108,111,99,107] 0 p.locks h2
  have a3:=gV2 p.threads (fun t ht=>by obtain⟨j,hj⟩:=List.mem_iff_getElem?.1 ht;exact⟨(h3.2 j t hj).1,(h3.2 j t hj).2.1⟩) (fun t ht=>List.all_eq_true.1 hp.2 t ht)
  simp only [pgT,szP,List.length_append,List.length_cons,List.length_nil] at a1 a2 a3 ⊢
  omega
end LexS
/- Places change no text: no program in sight. -/
namespace LexS
open Sx
abbrev idS:List UInt8→List UInt8:=fun s=>s
section
variable {h:Int→Int}
end
section
variable {g:List UInt8→List UInt8} {h g':List UInt8→List UInt8} {k k':Int→Int}
mutual
theorem jH6:∀ e:Ex,trE g' k' (trE g k e)=trE (fun s=>g' (g s)) (fun a=>k' (k a)) e
  | .mk _ op wd nm kids a=>by simp only [trE,qW kids]
termination_by structural e=>e
theorem qW:∀ l:List Ex,zY2 g' k' (zY2 g k l)=zY2 (fun s=>g' (g s)) (fun a=>k' (k a)) l
  | []=>rfl
  | e::r=>by simp only [zY2,jH6 e,qW r]
termination_by structural l=>l
end
mutual
theorem jG4:∀ s:Sm,trS g' k' (trS g k s)=trS (fun s=>g' (g s)) (fun a=>k' (k a)) s
  | .mk _ nm other e body els a=>by simp only [trS,qW,qO3 body,qO3 els]
termination_by structural e=>e
theorem qO3:∀ l:List Sm,zY9 g' k' (zY9 g k l)=zY9 (fun s=>g' (g s)) (fun a=>k' (k a)) l
  | []=>rfl
  | s::r=>by simp only [zY9,jG4 s,qO3 r]
termination_by structural l=>l
end
theorem jH0 (p:Pg):trP g' k' (trP g k p)=trP (fun s=>g' (g s)) (fun a=>k' (k a)) p:=by
  have hd:∀ l:List Dc,(l.map (trD g k)).map (trD g' k')=l.map (trD (fun s=>g' (g s)) (fun a=>k' (k a))):=fun l=>by rw [List.map_map];rfl
  simp only [trP,hd,List.map_map]
  congr 1
  refine List.map_congr_left fun t _=>?_
  simp only [Function.comp,trT,hd,qO3]
end
section
variable {g:List UInt8→List UInt8} {k:Int→Int} (hk:∀ a,i64 a→i64 (k a))
include hk
theorem jM7:∀ (n:Nat) (e:Ex),SizeOf.sizeOf e=n→OkE e→OkE (trE g k e):=by
  intro n
  refine Nat.strongRecOn n fun n ih e hn hok=>?_
  subst hn
  rw [jM0,zV3]
  refine .mk hok.k hok.op hok.wd (hk _ hok.a) (by simpa using hok.kids.1) fun j x hx=>?_
  rw [List.getElem?_map] at hx
  cases hj:e.kids[j]? with
  | none=>rw [hj] at hx;cases hx
  | some y=>
    rw [hj] at hx
    cases hx
    exact ih _ (qC9 (List.mem_of_getElem? hj)) y rfl (hok.kid hj)
theorem jC5 {l:List Ex} (h:gO2 l):gO2 (zY2 g k l):=by
  rw [zV3]
  refine⟨by simpa using h.1,fun j x hx=>?_⟩
  rw [List.getElem?_map] at hx
  cases hj:l[j]? with
  | none=>rw [hj] at hx;cases hx
  | some y=>rw [hj] at hx;cases hx;exact jM7 hk _ y rfl (h.2 j y hj)
theorem jK8:∀ (n:Nat) (s:Sm),SizeOf.sizeOf s=n→OkS s→OkS (trS g k s):=by
  intro n
  refine Nat.strongRecOn n fun n ih s hn hok=>?_
  subst hn
  rw [jL5,zS9,zS9]
  have key:∀ (l:List Sm),(∀ x∈l,SizeOf.sizeOf x<SizeOf.sizeOf s)→qO l→∀ (j:Nat) x,(l.map (trS g k))[j]?=some x→OkS x:=fun l hl h j x hx=>by
    rw [List.getElem?_map] at hx
    cases hj:l[j]? with
    | none=>rw [hj] at hx;cases hx
    | some y=>rw [hj] at hx;cases hx;exact ih _ (hl y (List.mem_of_getElem? hj)) y rfl (h.2 j y hj)
  exact .mk hok.k (hk _ hok.a) (jC5 hk hok.e) (by simpa using hok.body.1) (key _ (fun x hx=>qF9 (.inl hx)) hok.body) (by simpa using hok.els.1) (key _ (fun x hx=>qF9 (.inr hx)) hok.els)
theorem jE5 {l:List Sm} (h:qO l):qO (zY9 g k l):=by
  rw [zS9]
  refine⟨by simpa using h.1,fun j x hx=>?_⟩
  rw [List.getElem?_map] at hx
  cases hj:l[j]? with
  | none=>rw [hj] at hx;cases hx
  | some y=>rw [hj] at hx;cases hx;exact jK8 hk _ y rfl (h.2 j y hj)
theorem kR6 {l:List Dc} (h:OkD l):OkD (l.map (trD g k)):=by
  refine⟨by simpa using h.1,fun j x hx=>?_⟩
  rw [List.getElem?_map] at hx
  cases hj:l[j]? with
  | none=>rw [hj] at hx;cases hx
  | some y=>rw [hj] at hx;cases hx;exact⟨(h.2 j y hj).1,hk _ (h.2 j y hj).2⟩
theorem jK2 {p:Pg} (h:OkP p):OkP (trP g k p):=by
  refine⟨kR6 hk h.1,kR6 hk h.2.1,by simpa [trP] using h.2.2.1,fun j t hj=>?_⟩
  simp only [trP,List.getElem?_map] at hj
  cases hx:p.threads[j]? with
  | none=>rw [hx] at hj;cases hj
  | some y=>
    rw [hx] at hj
    cases hj
    obtain⟨h1,h2,h3⟩:=h.2.2.2 j y hx
    exact⟨kR6 hk h1,jE5 hk h2,hk _ h3⟩
end
end LexS
namespace Go.Proofs.YtnmhlpnapgojjaaGreatDoor
open Go.RowKit Sx LexS _root_.Go.Proofs.Tryz
abbrev no0:Int→Int:=fun _=>0
abbrev qE (p:Pg):Pg:=trP idS no0 p
theorem gZ (s:List UInt8) (w:World):Ret Tryz.prog 70 [str s] w fun v w'=>v=str s∧w'=w:=by
 refine zB [_] func70 rfl ntmps70 rfl ?_;have st:=St.init w [];refine a12 ?_;refine vr1 st results70 ?_;exact⟨rfl,rfl⟩
theorem kF1 (a:Int) (w:World):Ret Tryz.prog 71 [.int .i64 a] w fun v w'=>v=.int .i64 0∧w'=w:=by
 refine zB [_] func71 rfl ntmps71 rfl ?_;have st:=St.init w [];refine a11 ?_;refine vr1 st results71 ?_;exact⟨rfl,rfl⟩
def fnsS:Fns:=⟨idS,no0,70,71,[],[],[],fun _=>True⟩
theorem jC7:fnsS.Ok:=⟨fun s w _=>gZ s w,fun a w _=>kF1 a w,fun _ _ _ _=>trivial,call70,call71⟩
theorem kH0 {n0:Nat} (p:Pg) (hok:OkP p) (os ol ot:Option Addr) (cs cl ct:Nat) (w:World) (hSh:DcRow w (·<n0) os p.shared) (hL:DcRow w (·<n0) ol p.locks) (hT:ThRow w (·<n0) ot p.threads) (hn0:n0≤w.heap.size) :
    Ret Tryz.prog 24 [.agg (pgL p os ol ot cs cl ct).toArray] w fun v w'=>∃ (gs gl gt:Option Addr) (gcs gcl gct:Nat) (S:List Nat),v=.agg (pgL (qE p) gs gl gt gcs gcl gct).toArray∧PgQ w' (qE p) (pgL (qE p) gs gl gt gcs gcl gct) S∧Nw w.heap.size S∧Chg [] w w':=by
 refine zB [_] func24 rfl ntmps24 rfl ?_;have st:=St.init w [];obtain⟨w0,rfl⟩:∃ w0,w0=w:=⟨_,rfl⟩
 refine a2 ?_;refine zA3 (zT2 (l:=[_,_,_]) st rfl rfl rfl rfl ?_);intro b1 w hb1 st;refine zA3 (zF8 (l:=[_,_,_]) st rfl rfl qV26 rfl ?_);intro b2 w hb2 st;refine a4 ?_;refine yla st 1 [_,_,_] qA26 qZ26 ?_;refine zA3 (zA1 [_,_,_] rfl rfl call55 rfl (kB5 fnsS jC7 p hok _ _ _ _ _ _ _ (RowC.kept hSh st.sm) (RowC.kept hL st.sm) (hT.kept st.sm) (Nat.le_trans hn0 st.chg.size) trivial (fun b hb=>by cases hb)) ?_);rintro _ w ⟨l,S,rfl,hQ,hN,cw⟩;have hQ2:=hQ;obtain⟨gs,gcs,gl,gcl,gt,gct,Sa,Sb,Sc,rfl,-⟩:=hQ2;have hN9:=hN.le st.chg.size;replace st:=St.pushR (r:=.tree S (fun w=>PgQ w (qE p) (pgL (qE p) gs gl gt gcs gcl gct) S)) st cw (zD2 hQ hQ.lt (fun a b h hk=>h.kept hk)) hN.2;refine zA3 (zC4 st 1 [_,_,_] qZ26 ?_);intro w st;refine a3 ?_;refine zB7 st (.inl rfl) results24 (by exact .cell 1 rfl rfl qA26 qZ26) ?_;refine⟨_,rfl,?_⟩;exact⟨gs,gl,gt,gcs,gcl,gct,S,rfl,(st.res (i:=0) rfl).1,hN9,st.chg⟩
end Go.Proofs.YtnmhlpnapgojjaaGreatDoor
namespace Go.Proofs.YtnmhlpnapgojjaaGreatDoor.Pq
open Go.RowKit Sx LexS _root_.Go.Proofs.Tryz
def tnm (f t s:Wd):Wd:=if s≠[]∧s=f then t else s
def tat (b:Bool) (n:Int):Int:=if b then 0 else n
abbrev tvL (b:Bool) (f t:Wd):List Value:=[.bool b,str f,str t]
theorem qC4 {g:Wd→Wd} {h:Int→Int} (l:List Ex):(zY2 g h l).length=l.length:=by rw [zV3,List.length_map]
theorem zZ3 {g:Wd→Wd} {h:Int→Int} (l:List Sm):(zY9 g h l).length=l.length:=by rw [zS9,List.length_map]
theorem jI {g:Wd→Wd} {h:Int→Int} {l:List Ex} {j:Nat} {e:Ex} (he:l[j]?=some e):(zY2 g h l)[j]?=some (trE g h e):=by rw [zV3,List.getElem?_map,he];rfl
theorem jG2 {g:Wd→Wd} {h:Int→Int} {l:List Sm} {j:Nat} {e:Sm} (he:l[j]?=some e):(zY9 g h l)[j]?=some (trS g h e):=by rw [zS9,List.getElem?_map,he];rfl
abbrev exT (g:Wd→Wd) (h:Int→Int) (e:Ex) (o:Option Addr) (c:Nat):List Value:=[.int .u8 e.k,.int .u8 e.op,.int .i64 e.wd,str (g e.nm),.slice o e.kids.length c,.int .i64 (h e.a)]
theorem jJ (g:Wd→Wd) (h:Int→Int) (e:Ex) (o:Option Addr) (c:Nat):exT g h e o c=exL (trE g h e) o c:=by
 cases e;simp only [exT,exL,trE,Ex.kids,Ex.k,Ex.op,Ex.wd,Ex.nm,Ex.a,qC4]
section
variable {n0:Nat} {S:Nat→Prop}
theorem qG1 (b:Bool) (f t s:Wd) (w:World):Ret Tryz.prog 127 [.agg (tvL b f t).toArray,str s] w fun v w'=>v=str (tnm f t s)∧Chg [] w w':=by
 refine zB [_,_] func127 rfl ntmps127 rfl ?_;have st:=St.init w [];obtain⟨w0,rfl⟩:∃ w0,w0=w:=⟨_,rfl⟩
 refine a2 ?_;refine zA3 (zT2 (l:=[_,_,_]) st rfl rfl rfl rfl ?_);intro b2 w hb2 st;refine a8 ?_;refine vmb ?_ ?_
 focus
  intro hg7;refine a1 ?_;refine yfz 1 underlying99 qZ9 ?_;refine yl st 0 qA9 ?_;refine a4 ?_;refine vif ?_ ?_;intro hc12;refine a2 ?_;refine yfz 2 underlying99 qZ9 ?_;refine yl st 0 qA9 ?_;refine a5 ?_
  rotate_left
  intro hc12;refine a9 ?_
 rotate_left 2
 intro hg7;refine a16 ?_;refine a1 ?_
 all_goals
  refine vr1 st results127 ?_;refine⟨?_,st.chg⟩;unfold tnm;split <;> first|rfl|(exfalso;simp_all)
theorem gI1 (b:Bool) (f t:Wd) (n:Int) (w:World):Ret Tryz.prog 129 [.agg (tvL b f t).toArray,.int .i64 n] w fun v w'=>v=.int .i64 (tat b n)∧Chg [] w w':=by
 refine zB [_,_] func129 rfl ntmps129 rfl ?_;have st:=St.init w [];obtain⟨w0,rfl⟩:∃ w0,w0=w:=⟨_,rfl⟩
 refine a2 ?_;refine zA3 (zT2 (l:=[_,_,_]) st rfl rfl rfl rfl ?_);intro b2 w hb2 st;refine a6 ?_;refine vy (zC3 rfl underlying99 rfl rfl qZ4 rfl) ?_;refine yl st 0 qA4 ?_;refine a2 ?_;refine vif ?_ ?_;intro hc6;refine a7 ?_
 rotate_left
 intro hc6;refine a9 ?_
 all_goals
  refine vr1 st results129 ?_;refine⟨?_,st.chg⟩;unfold tat;split <;> first|rfl|(exfalso;simp_all)
set_option maxHeartbeats 1000000 in
theorem zW2 (b:Bool) (fr tn:Wd) (ds:List Dc) (hn:ds.length≤1099511627776) (oa:Option Addr) (cap:Nat) (w:World) (hD:DcRow w S oa ds) :
    Ret Tryz.prog 126 [.agg (tvL b fr tn).toArray,.slice oa ds.length cap] w fun v w'=>∃ oq cq Sq,v=.slice oq ds.length cq∧qL3 w' oq cq (ds.map (trD (tnm fr tn) (tat b))) Sq∧Nw w.heap.size Sq∧Chg [] w w':=by
 refine zB [_,_] func126 rfl ntmps126 rfl ?_;have st:=St.init w [];obtain⟨w0,rfl⟩:∃ w0,w0=w:=⟨_,rfl⟩
 replace st:=st.ownNil 63 3;refine a2 ?_;refine zA3 (zT2 (l:=[_,_,_]) st rfl rfl rfl rfl ?_);intro b2 w hb2 st;refine a15 ?_;refine zC (w0:=w0) (M:=[]) (fun (y:Nat×Option Addr×Nat)=>[(1,.slice oa ds.length cap),(2,.pointer (some ⟨b2,0,none⟩)),(5,.slice y.2.1 y.1 y.2.2),(6,.int .i64 (y.1:Int))]) (fun y=>[.blk b2 (.cells (tvL b fr tn).toArray 99 (0,0)),.own (.slice y.2.1 y.1 y.2.2) 63 3 y.1 (((ds.map (trD (tnm fr tn) (tat b))).take y.1).flatMap dcL)]) (fun y _=>y.1≤ds.length) (fun y=>ds.length - y.1) (0,none,0) ⟨rfl,rfl,rfl,rfl,trivial⟩ (by simpa using st) (by simp) ?_;clear st;rintro ⟨j,oj,cj⟩ w hj st;dsimp only at *;refine a5 ?_;refine vy (zB1 rfl qU23) ?_;refine a3 ?_;refine vif ?_ ?_;intro hc10;(try simp only [dn] at hc10);obtain⟨x,hx⟩:∃ x,ds[j]?=some x:=⟨_,List.getElem?_eq_getElem (by omega)⟩
 obtain⟨gb,go,rfl,hgS,hgl,hg⟩:=DcRow.at hD (by omega);have hc:=hg j x hx;refine a4 ?_;refine vdr Tryz.mixed [Yt 0,Yt 1,Yt 2,Yt 3,Yt 4,Yt 5,Yt 6,Yt 8,Yt 9,Yt 10,Yt 11,Yt 12,Yt 13,Yt 14,Yt 15,Yt 16,Yt 17,Yt 18,Nt 7,Nt 19,Yt 20,Nt 21,Nt 22,Yt 23] [.blk b2 (.cells (tvL b fr tn).toArray 99 (0,0))] st ?_;clear st;intro w st hS;refine pm hS ?_;refine zA2 rfl rfl rfl hS (fun w st=>zS7 (vs:=[_,_,_]) st 0 rfl qA99 qZ99 rfl rfl) ?_;(iterate 2 refine pm hS ?_);refine zA2 rfl rfl rfl hS (fun w st=>zM3 (k:=j) rfl rfl qU23 qZ63 rfl (by omega)) ?_;refine pf0 hS qU63 qZ9 ?_;refine zA2 rfl rfl rfl hS (fun w st=>zD8 rfl qA9 (st.chg.cell (hc 0 _ rfl) (by simp))) ?_;(iterate 2 refine pm hS ?_);refine zA2 rfl rfl rfl hS (fun w st=>zM3 (k:=j) rfl rfl qU23 qZ63 rfl (by omega)) ?_;refine zA2 rfl rfl rfl hS (fun w st=>zU9 (k:=1) rfl qU63 rfl rfl qZ2 rfl) ?_;refine zA2 rfl rfl rfl hS (fun w st=>zD8 rfl qA2 (st.chg.cell (hc 1 _ rfl) (by simp))) ?_;refine zA2 rfl rfl rfl hS (fun w st=>zS7 (vs:=[_,_,_]) st 0 rfl qA99 qZ99 rfl rfl) ?_;(iterate 2 refine pm hS ?_);refine zA2 rfl rfl rfl hS (fun w st=>zM3 (k:=j) rfl rfl qU23 qZ63 rfl (by omega)) ?_;refine zA2 rfl rfl rfl hS (fun w st=>zU9 (k:=2) rfl qU63 rfl rfl qZ3 rfl) ?_;refine zA2 rfl rfl rfl hS (fun w st=>zD8 rfl qA3 (st.chg.cell (hc 2 _ rfl) (by simp))) ?_;refine zD0 rfl (zA1 [_,_] rfl rfl call127 rfl (qG1 b fr tn x.nm _) ?_);rintro _ w ⟨rfl,cw⟩;replace st:=st.call0 cw;refine zA9 st.dr ?_;intro hS;refine zD0 rfl (zA1 [_,_] rfl rfl call129 rfl (gI1 b fr tn x.a _) ?_);rintro _ w ⟨rfl,cw⟩;replace st:=st.call0 cw;refine zA9 st.dr ?_;intro hS;refine zA2 rfl rfl rfl hS (fun w st=>ybd (.agg #[_,_,_]) [(0,_),(1,_),(2,_)]) ?_;refine zD0 rfl (zI4 (l:=[_,_,_]) st rfl rfl rfl rfl qU23 qZ63 rfl rfl rfl qV63 ?_);intro b34 w hb34 st;refine zA9 st.dr ?_;intro hS;refine zD0 rfl (qE3 (bytes:=32) st 2 0 rfl rfl rfl rfl rfl rfl qU23 Tryz.info63 rfl rfl rfl rfl rfl (by simp) rfl rfl (by unfold maxLen;omega) (by omega) ?_);intro oaQ capQ w st;dsimp only [zA0] at st;refine zA9 st.dr ?_;intro hS;refine zA2 rfl rfl rfl hS (fun w st=>qL1 rfl) ?_;refine zC6 (zE0 (zA6 (zB4 ?_)));refine a1 ?_;refine vy (yin ((j+1:Nat):Int)) ?_;refine a2 ?_;refine zA7 (j+1,oaQ,capQ)  ⟨rfl,rfl,rfl,rfl,trivial⟩ (by rw [zW6 (by rw [List.getElem?_map,hx];rfl:(ds.map (trD (tnm fr tn) (tat b)))[j]?=some (trD (tnm fr tn) (tat b) x)),List.flatMap_append];exact st.pick [1,2] rfl (by decide)) ?_ ?_;dsimp only;omega;dsimp only;omega;intro hc10;(try simp only [dn] at hc10);refine a12 ?_;refine vr1 st results126 ?_;obtain rfl:j=ds.length:=by omega
 rw [List.take_of_length_le (by simp)] at st;have hel:ds.length=(ds.map (trD (tnm fr tn) (tat b))).length:=by simp
 rw [hel] at st;refine⟨oj,cj,_,by simp,⟨(st.ownNw (i:=1) rfl).1,rfl⟩,(st.ownNw (i:=1) rfl).2,st.chg⟩
set_option maxHeartbeats 1000000 in
theorem kA0 (b:Bool) (fr tn:Wd):∀ (n:Nat) (es:List Ex),szo es=n→gO2 es→∀ (oa:Option Addr) (cap:Nat) (w:World),ExRow w (·<n0) oa es→n0≤w.heap.size→
    Ret Tryz.prog 160 [.agg (tvL b fr tn).toArray,.slice oa es.length cap] w fun v w'=>∃ oq cq Sq,v=.slice oq es.length cq∧gK5 w' oq cq (zY2 (tnm fr tn) (tat b) es) Sq∧Nw w.heap.size Sq∧Chg [] w w':=by
 intro n;refine Nat.strongRecOn n fun n ih=>?_
 intro es hn hok oa cap w hr hn0;subst hn;have hle:=hok.1;refine zB [_,_] func160 rfl ntmps160 rfl ?_;have st:=St.init w [];obtain⟨w0,rfl⟩:∃ w0,w0=w:=⟨_,rfl⟩
 replace st:=St.pushR (r:=.tree [] (fun w=>ExSs 42 w [] [] [])) st (Chg.refl _ _) (zD2 (by simp [ExSs]) (by simp) (fun a b h hk=>h.kept hk)) (by simp [Res.at?]);replace st:=st.ownNil 42 6;refine a2 ?_;refine zA3 (zT2 (l:=[_,_,_]) st rfl rfl rfl rfl ?_);intro b2 w hb2 st;refine a15 ?_;refine zC (w0:=w0) (M:=[]) (fun (y:Nat×Option Addr×Nat×List Value×List Nat)=>[(1,.slice oa es.length cap),(2,.pointer (some ⟨b2,0,none⟩)),(5,.slice y.2.1 y.1 y.2.2.1),(6,.int .i64 (y.1:Int))]) (fun y=>[.blk b2 (.cells (tvL b fr tn).toArray 99 (0,0)),.own (.slice y.2.1 y.1 y.2.2.1) 42 6 y.1 y.2.2.2.1,.tree y.2.2.2.2 (fun w=>ExSs 42 w ((zY2 (tnm fr tn) (tat b) es).take y.1) y.2.2.2.1 y.2.2.2.2)]) (fun y _=>y.1≤es.length∧Nw w0.heap.size y.2.2.2.2) (fun y=>es.length - y.1) (0,none,0,[],[]) ⟨rfl,rfl,rfl,rfl,trivial⟩ (by simpa using st) ⟨by simp,Nw.nil⟩ ?_;clear st;rintro ⟨j,oj,cj,xs,S⟩ w ⟨hj,hSS⟩ st;dsimp only at *;refine a5 ?_;refine vy (zB1 rfl qU40) ?_;refine a3 ?_;refine vif ?_ ?_;intro hc11;(try simp only [dn] at hc11);have stK:=st;obtain⟨e,hej⟩:∃ e,es[j]?=some e:=⟨_,List.getElem?_eq_getElem (by omega)⟩
 obtain⟨gb,go,rfl,hgS,hgl,hg⟩:=ExRow.at hr (by omega);obtain⟨o0,c0,hV0,hr0,hc0⟩:=hg j e hej;have hke:=hok.2 j e hej;have hz:=zF2 hej
 have hz2 : szo e.kids < szo es := by have : szo e.kids < szo e := by cases e; exact gO8
                                      omega
 have st:=stK;clear stK;refine a8 ?_;refine vy (zM3 (k:=j) rfl rfl qU40 qZ42 rfl (by omega)) ?_;refine vy (zE6 (exL e o0 c0) rfl qA42 qZ42 rfl (fun i v hi=>st.chg.cell (hc0 i v hi) (by simp))) ?_;refine zA3 (zF8 (l:=[_,_,_,_,_,_]) st rfl rfl qV42 rfl ?_);intro b7 w hb7 st;refine zA3 (zC4 st 0 [_,_,_,_,_,_] qZ42 ?_);intro w st;dsimp only [zA0,wr] at st;refine a4 ?_;refine yla st 1 [_,_,_] qA99 qZ99 ?_;refine yfz 3 qU42 qZ9 ?_;refine yl st 0 qA9 ?_;refine zA3 (zA1 [_,_] rfl rfl call127 rfl (qG1 b fr tn e.nm _) ?_);rintro _ w ⟨rfl,cw⟩;replace st:=st.call0 cw;refine yfz 3 qU42 qZ9 ?_;refine zA3 (est st 0 qZ9 ?_);intro w st;dsimp only [zA0,wr] at st;refine a4 ?_;refine yla st 1 [_,_,_] qA99 qZ99 ?_;refine yfz 5 qU42 qZ3 ?_;refine yl st 0 qA3 ?_;refine zA3 (zA1 [_,_] rfl rfl call129 rfl (gI1 b fr tn e.a _) ?_);rintro _ w ⟨rfl,cw⟩;replace st:=st.call0 cw;refine yfz 5 qU42 qZ3 ?_;refine zA3 (est st 0 qZ3 ?_);intro w st;dsimp only [zA0,wr] at st;refine a4 ?_;refine yla st 1 [_,_,_] qA99 qZ99 ?_;refine yfz 4 qU42 qZ40 ?_;refine yl st 0 qA40 ?_;refine zA3 (zA1 [_,_] rfl rfl call160 rfl (ih _ hz2 e.kids rfl hke.kids _ _ _ (hr0.kept st.sm) (Nat.le_trans hn0 st.chg.size)) ?_);rintro _ w ⟨oq,cq,Sq,rfl,hQ,hN,cw⟩;have hN9:=hN.le st.chg.size;replace st:=St.pushR (r:=.tree Sq (fun w=>gK5 w oq cq (zY2 (tnm fr tn) (tat b) e.kids) Sq)) st cw (zD2 hQ hQ.lt (fun a b h hk=>h.kept hk)) hN.2;refine yfz 4 qU42 qZ40 ?_;refine zA3 (est st 1 qZ40 ?_);intro w st;dsimp only [zA0,wr] at st;refine a4 ?_;refine yla st 1 [_,_,_,_,_,_] qA42 qZ42 ?_;refine zA3 (zI4 (l:=[_,_,_,_,_,_]) st rfl rfl rfl rfl qU40 qZ42 rfl rfl rfl qV42 ?_);intro b35 w hb35 st;refine zA3 (qE3 (bytes:=64) st 4 0 rfl rfl rfl rfl rfl rfl qU40 Tryz.info42 rfl rfl rfl rfl rfl (by simp) rfl rfl (by unfold maxLen;omega) (by omega) ?_);intro oaQ capQ w st;dsimp only [zA0] at st;refine a5 ?_;have hne:∀ b∈S,b∉Sq:=fun b hb=>st.ne (i:=5) (j:=1) (by decide) rfl rfl b hb
 have stN:=st.pick [5,1,4,3] rfl (by decide);have h1:=(stN.res (i:=0) rfl).1;have h2:=(stN.res (i:=1) rfl).1;have h3:ExSs 42 w ((zY2 (tnm fr tn) (tat b) es).take (j+1)) (xs++exT (tnm fr tn) (tat b) e oq cq) (S++Sq):=by rw [zW6 (jI hej)];exact ExSs.snoc h1 (ExS_iff.2 ⟨oq,cq,jJ _ _ _ _ _,by rw [show (trE (tnm fr tn) (tat b) e).kids=zY2 (tnm fr tn) (tat b) e.kids from by cases e;rfl];exact h2⟩)
 replace stN:=(stN.join (q:=.tree (S++Sq) fun w=>ExSs 42 w ((zY2 (tnm fr tn) (tat b) es).take (j+1)) (xs++exT (tnm fr tn) (tat b) e oq cq) (S++Sq)) (fun k hk=>List.mem_append.1 hk) (zD2 h3 h3.lt (fun a b h hk=>h.kept hk))).pick [2,1,0] rfl (by decide);refine a1 ?_;refine vy (yin ((j+1:Nat):Int)) ?_;refine a2 ?_;refine zA7 (j+1,oaQ,capQ,xs++exT (tnm fr tn) (tat b) e oq cq,S++Sq)  ⟨rfl,rfl,rfl,rfl,trivial⟩ stN ?_ ?_;exact⟨by dsimp only;omega,hSS.app hN9 hne⟩;dsimp only;omega;intro hc11;(try simp only [dn] at hc11);refine a12 ?_;refine vr1 st results160 ?_;obtain rfl:j=es.length:=by omega
 rw [List.take_of_length_le (by rw [qC4];omega)] at st;rw [← qC4 (g:=tnm fr tn) (h:=tat b) es] at st;obtain⟨h1,h2⟩:=st.ownNw (i:=1) rfl;have h3:=(st.res (i:=2) rfl).1;exact⟨oj,cj,obk oj++S,rfl,⟨xs,S,h1,rfl,h3⟩,h2.app hSS (fun b hb=>st.ne (i:=1) (j:=2) (by decide) rfl rfl b (by simpa [Res.at?,zE8] using hb)),st.chg⟩
end
end Go.Proofs.YtnmhlpnapgojjaaGreatDoor.Pq
