/- A part of the proof: contracts of functions and plain laws; each theorem says its own conditions. -/
import Derived.Test.YtnmhlpnapgojjaaGreatDoorPrettyLaidAl
import Derived.Test.YtnmhlpnapgojjaaGreatDoorPrettyLaidK1
import Derived.Test.YtnmhlpnapgojjaaGreatDoorPrettyLaidPO
import Derived.Test.YtnmhlpnapgojjaaGreatDoorPrettyLaidTryzShelfP
import Derived.Test.YtnmhlpnapgojjaaGreatDoorPrettyLaidK3
import Derived.Test.YtnmhlpnapgojjaaGreatDoorPrettyLaidK2
import Derived.Test.YtnmhlpnapgojjaaGreatDoorPrettyLaidK6
import Derived.Test.YtnmhlpnapgojjaaGreatDoorPrettyLaidK4
set_option linter.unusedVariables false
set_option linter.unusedSimpArgs false
namespace Go.Proofs.YtnmhlpnapgojjaaGreatDoor
open Go.RowKit Sx LexS _root_.Go.Proofs.Tryz
theorem qW5:∀ d,Lib.repeatL [32,32] d=mar d
 | 0=>rfl
 | d+1=>by
  show [32,32]++Lib.repeatL [32,32] d=_
  rw [qW5 d]
  unfold mar
  rw [show 2*(d+1)=2*d+2 by omega]
  rfl
theorem zK6 (d:Nat) (w:World) (hd:d≤1000):Ret Tryz.prog 95 [str [32,32],.int .i64 (d:Int)] w fun v w'=>v=str (mar d)∧Chg [] w w':=by
 have key:=Tryz.strings_Repeat ⟨[32,32].toArray⟩ d w (by omega) (by show 2*d≤_;omega);refine Calls.mono key ?_;rintro e w' ⟨rfl,hb⟩;refine⟨_,rfl,?_,Chg.of_below hb⟩;show Value.string ⟨(Lib.repeatL [32,32] d).toArray⟩=_;have e:=qW5 d;rw [e]
abbrev kN2 (l:List (List UInt8)):List Value:=l.map str
theorem gG6 (l:List (List UInt8)):Lib.join l [44,32]=zU l:=by
 unfold Lib.join
 match l with
 | []=>rfl
 | [x]=>simp [zU,List.intercalate]
 | x::y::r=>
  have ih:=gG6 (y::r)
  unfold Lib.join at ih
  simp only [zU]
  rw [← ih]
  simp [List.intercalate]
theorem kR3 (l:List (List UInt8)) (oa:Option Addr) (cap base:Nat) (w:World) (ho:w.ownsRow base 9 1 (.slice oa l.length cap) l.length (kN2 l)) (hlen:(zU l).length≤140737488355328) (hl:l.length≤140737488355328) :
    Ret Tryz.prog 94 [.slice oa l.length cap,str [44,32]] w fun v w'=>v=str (zU l)∧Chg [] w w':=by
 rcases l with _|⟨x,r⟩
 refine Calls.mono (Tryz.strings_Join_none oa cap ⟨[44,32].toArray⟩ w) ?_;rintro e w' ⟨rfl,rfl⟩;exact⟨_,rfl,rfl,Chg.refl _ _⟩;obtain⟨g,cap',e,hg⟩:=qI4 ho (by simp);simp only [Value.slice.injEq] at e;obtain⟨rfl,-,rfl⟩:=e;have hblk:=(World.ownsRow.lt ho g (by simp [Value.ownBlock])).2
 have hcap:(x::r).length≤cap:=by
  rcases ho.2 with ⟨h,_⟩|⟨g',c',cur,h,_,_,h1,_⟩
  ·cases h
  ·simp only [Value.slice.injEq] at h;omega
 have hm:((x::r).map fun t=>(⟨t.toArray⟩:ByteArray)).map (·.data.toList)=x::r:=by simp [Function.comp_def]
 have key:=Tryz.strings_Join g 0 cap ((x::r).map fun t=>(⟨t.toArray⟩:ByteArray)) ⟨[44,32].toArray⟩ w (fun j y hj=>by
   rw [Nat.zero_add]
   refine qD7 ho ?_
   rw [List.getElem?_map] at hj ⊢
   cases hq:(x::r)[j]? with
   | none=>rw [hq] at hj;cases hj
   | some q=>rw [hq] at hj;cases hj;rfl) hblk (by simpa using hl) (by simpa using hcap) (by rw [hm];show (Lib.join (x::r) [44,32]).length≤_;rw [gG6];exact hlen)
 rw [hm,List.length_map] at key;refine Calls.mono key ?_;rintro e w' ⟨rfl,hb⟩;refine⟨_,rfl,?_,Chg.of_below hb⟩;show Value.string ⟨(Lib.join (x::r) [44,32]).toArray⟩=_;rw [gG6]
theorem gL8 (l:List (List UInt8)) (B:Nat) (h:∀ x∈l,x.length≤B):(zU l).length≤l.length*(B+2):=by
 match l with
 | []=>simp [zU]
 | [x]=>have:=h x (by simp);simp [zU];omega
 | x::y::r=>
  have ih:=gL8 (y::r) B (fun z hz=>h z (.tail _ hz))
  have:=h x (by simp)
  simp only [zU,List.length_append,List.length_cons,List.length_nil,Nat.add_mul] at ih ⊢
  omega
theorem Tryz.info9:Tryz.prog.info? 9=some Tryz.t9:=by kernel_rfl
theorem gI {ds:List Dc} {j:Nat} {x:Dc} (h:ds[j]?=some x):kN2 ((ds.take (j+1)).map dcT)=kN2 ((ds.take j).map dcT)++[str (dcT x)]:=by
 obtain⟨hj,e⟩:=List.getElem?_eq_some_iff.1 h;rw [List.take_succ_eq_append_getElem hj,e];simp
theorem zP2 {ps:List (List UInt8)} {j:Nat} {x:List UInt8} (h:ps[j]?=some x):nth (ps.map str) j=some (str x):=by
 rw [zL8,List.getElem?_map,h];rfl
section
variable {n0:Nat}
set_option maxHeartbeats 2000000 in
theorem qQ4 (ds:List Dc) (b:Bool) (hR:ds.all (zQ1 b)=true) (hok:OkD ds) (word:List UInt8) (hwd:word.length≤100) (d:Nat) (hd:d≤1000) (oa:Option Addr) (cap:Nat) (bw:Nat) (v:Value) (F:List UInt8) (w:World) (hD:DcRow w (·<n0) oa ds) (hW:Wr 5 n0 80 bw v F w) (hn0:n0≤w.heap.size) :
    Ret Tryz.prog 39 [.pointer (some ⟨bw,0,none⟩),.int .i64 (d:Int),str word,.slice oa ds.length cap] w fun r w'=>r=.tuple #[]∧WrP 5 n0 80 bw v (F++gD5 word d ds) w w':=by
 refine zB [_,_,_,_] func39 rfl ntmps39 rfl ?_;have st:=St.init w [];clear st;obtain⟨w0,rfl⟩:∃ w0,w0=w:=⟨_,rfl⟩
 have st:=St.wrInit hW;have hn:=hok.1;refine a4 ?_;refine vy (zB1 rfl qU23) ?_;refine a3 ?_;refine vif ?_ ?_;intro hc14;(try simp only [dn] at hc14);refine a2 ?_;refine zD4 (.inl rfl) results39 ?_;refine⟨_,rfl,?_⟩;refine⟨rfl,(st.wrDone (i:=0) rfl).eq ?_⟩;unfold gD5;rw [if_pos (by omega),List.append_nil];intro hc14;(try simp only [dn] at hc14);refine a11 ?_;refine vy (zB1 rfl qU23) ?_;refine a4 ?_;refine zC (w0:=w0) (M:=(bw::v.ownBlock.toList)) (fun (y:Nat×Option Addr×Nat)=>[(0,.pointer (some ⟨bw,0,none⟩)),(1,.int .i64 (d:Int)),(2,str word),(8,.slice y.2.1 y.1 y.2.2),(15,.slice oa ds.length cap),(16,.int .i64 (ds.length:Int)),(17,.int .i64 (y.1:Int))]) (fun y=>[.own (.slice y.2.1 y.1 y.2.2) 9 1 y.1 (kN2 ((ds.take y.1).map dcT)),wrR (bw::v.ownBlock.toList) w0.heap.size 5 n0 80 bw v F]) (fun y _=>y.1≤ds.length) (fun y=>ds.length - y.1) (0,none,0) ⟨rfl,rfl,rfl,rfl,rfl,rfl,rfl,trivial⟩ (st.ownNil 9 1) (by simp) ?_;clear st;rintro ⟨j,oj,cj⟩ w hj st;dsimp only at *;refine a6 ?_;refine vif ?_ ?_
 ·intro hc18;(try simp only [dn] at hc18);obtain⟨x,hx⟩:∃ x,ds[j]?=some x:=⟨_,List.getElem?_eq_getElem (by omega)⟩
  obtain⟨gb,go,rfl,hgS,hgl,hg⟩:=DcRow.at hD (by omega);have hc:=hg j x hx;have hxo:=hok.2 j x hx;have hxr:zQ1 b x=true:=List.all_eq_true.1 hR x (List.mem_of_getElem? hx);have hxn:x.nm.length≤32:=by unfold zQ1 at hxr;simp only [Bool.and_eq_true] at hxr;exact zL9 hxr.1
  have hxs:=gU3 x.wd hxo.1;have htm:=gI hx;refine a6 ?_;refine vy (zM3 (k:=j) rfl rfl qU23 qZ63 rfl (by omega)) ?_;refine vy (zE6 (dcL x) rfl qA63 qZ63 rfl (fun i v hi=>st.chg.cell (hc i v hi) (hW.notin hgS))) ?_;refine zA3 (zF8 (l:=[_,_,_]) st rfl rfl qV63 rfl ?_);intro b10 w hb10 st;refine zA3 (zC4 st 0 [_,_,_] qZ63 ?_);intro w st;dsimp only [zA0,wr] at st;refine a4 ?_;refine vy (zC3 rfl qU63 rfl rfl qZ9 rfl) ?_;refine yl st 0 qA9 ?_;refine a3 ?_;refine zL2 (w0:=w0) (M:=(bw::v.ownBlock.toList)) (fun (_:Unit)=>[(0,.pointer (some ⟨bw,0,none⟩)),(1,.int .i64 (d:Int)),(2,str word),(8,.slice oj j cj),(11,str (dcT x)),(15,.slice (some ⟨gb,go,none⟩) ds.length cap),(16,.int .i64 (ds.length:Int)),(17,.int .i64 (j:Int))]) (fun _=>[.own (.slice oj j cj) 9 1 j (kN2 ((ds.take j).map dcT)),wrR (bw::v.ownBlock.toList) w0.heap.size 5 n0 80 bw v F]) (fun _ _=>True) ?_ ?_
  ·refine a2 ?_;refine yfz 1 qU63 qZ2 ?_;refine yl st 0 qA2 ?_;refine a3 ?_;refine vif ?_ ?_;intro hc25;(try simp only [dn] at hc25);refine a2 ?_;refine yfz 1 qU63 qZ2 ?_;refine yl st 0 qA2 ?_;refine zA3 (zA1 [_] rfl rfl call76 rfl (qQ1 _ _ hxo.1) ?_);rintro _ w ⟨rfl,cw⟩;replace st:=st.call0 cw;(iterate 2 refine vy (qV8 rfl rfl (by simp only [List.length_append,List.length_cons,List.length_nil];omega)) ?_);refine a2 ?_
   rotate_left
   intro hc25;(try simp only [dn] at hc25);refine a1 ?_
   all_goals
    refine zB8 () ⟨rfl,rfl,rfl,rfl,by simp only [Sx.put,find,Nat.beq];unfold dcT;first|rw [if_pos (by omega:x.wd=0),List.append_nil]|rw [if_neg (by omega:¬ x.wd=0)],rfl,rfl,rfl,trivial⟩ (st.dr) ?_;trivial
  clear st;rintro ⟨⟩ w - st;refine a3 ?_;refine zA3 (zI4 (l:=[_]) st rfl rfl rfl rfl qU50 qZ9 rfl rfl rfl qV9 ?_);intro b34 w hb34 st;refine zA3 (qE3 (bytes:=16) st 1 0 rfl rfl rfl rfl rfl rfl qU50 Tryz.info9 rfl rfl rfl rfl rfl (by simp) rfl rfl (by unfold maxLen;omega) (by omega) ?_);intro oa35 cap35 w st;dsimp only [zA0] at st;refine a5 ?_;refine vy (yin ((j+1:Nat):Int)) ?_;refine a2 ?_;refine zA7 (j+1,oa35,cap35)  ⟨rfl,rfl,rfl,rfl,rfl,rfl,rfl,trivial⟩ (by rw [htm];exact st.dr) ?_ ?_;dsimp only;omega;dsimp only;omega
 intro hc18;(try simp only [dn] at hc18);obtain rfl:j=ds.length:=by omega
 rw [List.take_length] at st
 have hjl:(zU (ds.map dcT)).length≤ds.length*57:=by
  have h:=gL8 (ds.map dcT) 55 (fun z hz=>by
    obtain⟨q,hq,rfl⟩:=List.mem_map.1 hz
    have hqr:zQ1 b q=true:=List.all_eq_true.1 hR q hq
    have h1:q.nm.length≤32:=by unfold zQ1 at hqr;simp only [Bool.and_eq_true] at hqr;exact zL9 hqr.1
    obtain⟨i,hi⟩:=List.mem_iff_getElem?.1 hq
    have h2:=gU3 q.wd (hok.2 i q hi).1
    unfold dcT
    split <;> simp <;> omega)
  simpa using h
 refine a10 ?_;refine zA3 (zA1 [_,_] rfl rfl call94 rfl (by have h:=kR3 (ds.map dcT) oj cj _ _ (by rw [List.length_map];exact st.res (i:=0) rfl) (by omega) (by rw [List.length_map];omega);rw [List.length_map] at h;exact h) ?_);rintro _ w ⟨rfl,cw⟩;replace st:=st.call0 cw;refine zA3 (zY7 (l:=[word,[32],zU (ds.map dcT),[59]].map str) (E:=9) st [(0,_),(1,_),(2,_),(3,_)] rfl rfl rfl (fun w=>by simp [Instr.buildSlice,run_underlying qU50,qZ9,qV9,Instr.fill,newRow,newObj,Sem.run,go_sem]) ?_);intro b42 w hb42 st;refine zA3 (zA1 [_,_,_] rfl rfl call40 rfl (zP6 zK6 bw _ _ d hd [word,[32],zU (ds.map dcT),[59]] (by simp) (by simp;omega) b42 _ _ (st.wrGet (i:=2) rfl) (Nat.le_trans hn0 st.chg.size) (fun j x hx=>zD7 (st.res (i:=0) rfl) (zP2 hx)) (fun hk=>zH3 st.nodup (i:=0) (j:=2) (by decide) rfl rfl _ (.head _) hk)) ?_);rintro _ w ⟨rfl,hp⟩;obtain⟨v9,st⟩:=st.wr (i:=2) rfl hp;dsimp only [zA0] at st;refine a1 ?_;refine zD4 (.inr rfl) results39 ?_;refine⟨_,rfl,?_⟩;refine⟨rfl,(st.wrDone (i:=2) rfl).eq ?_⟩;unfold gD5;rw [if_neg (by omega)];simp
end
section
variable {n0:Nat}
theorem WrP.swap {E T bw:Nat} {v:Value} {F G G':List UInt8} {w w':World} (p:WrP E n0 T bw v (F++G') w w') (h:G'=G∨65536<G'.length∧65536<G.length):WrP E n0 T bw v (F++G) w w':=
 p.re fun l m v' hb hws=>hws.swap h
theorem TxR.same {G r:List UInt8} (h:TxR [] G r) (A B:List UInt8):A++r++B=A++G++B∨65536<(A++r++B).length∧65536<(A++G++B).length:=by
 obtain⟨h1,h2,-,-⟩:=h;simp only [List.length_nil,Nat.zero_add,List.nil_append] at h1 h2;rcases Nat.lt_or_ge 65536 G.length with h|h;have:=h2 h;exact .inr ⟨by simp;omega,by simp;omega⟩;rw [h1 h];exact .inl rfl
theorem kL9 (s:Sm) (hk:s.k=7) (d:Nat) (hd:d≤64) (oe ob ol:Option Addr) (ce cb cl:Nat) (bw:Nat) (v:Value) (F:List UInt8) (w:World) (hW:Wr 5 n0 80 bw v F w) (hn0:n0≤w.heap.size) :
    Ret Tryz.prog 101 [.pointer (some ⟨bw,0,none⟩),.agg (smL s oe ob ol ce cb cl).toArray,.int .i64 (d:Int)] w fun r w'=>r=.tuple #[]∧WrP 5 n0 80 bw v (F++qK6 s d) w w':=by
 refine zB [_,_,_] func101 rfl ntmps101 rfl ?_;have st:=St.init w [];clear st;obtain⟨w0,rfl⟩:∃ w0,w0=w:=⟨_,rfl⟩
 have st:=St.wrInit hW;refine a2 ?_;refine zA3 (zT2 (l:=[_,_,_,_,_,_,_]) st rfl rfl rfl rfl ?_);intro b4 w hb4 st;refine a5 ?_;refine zA3 (zY7 (l:=[[115,107,105,112,59]].map str) (E:=9) st [(0,_)] rfl rfl rfl (fun w=>by simp [Instr.buildSlice,run_underlying qU50,qZ9,qV9,Instr.fill,newRow,newObj,Sem.run,go_sem]) ?_);intro b8 w hb8 st;refine zA3 (zA1 [_,_,_] rfl rfl call40 rfl (zP6 zK6 bw _ _ d (by omega) [[115,107,105,112,59]] (by simp) (by simp) b8 _ _ (st.wrGet (i:=2) rfl) (Nat.le_trans hn0 st.chg.size) (fun j x hx=>zD7 (st.res (i:=0) rfl) (zP2 hx)) (fun hk=>zH3 st.nodup (i:=0) (j:=2) (by decide) rfl rfl _ (.head _) hk)) ?_);rintro _ w ⟨rfl,hp⟩;obtain⟨v9,st⟩:=st.wr (i:=2) rfl hp;refine a1 ?_;refine zD4 (.inr rfl) results101 ?_;refine⟨_,rfl,?_⟩;refine⟨rfl,(st.wrDone (i:=2) rfl).eq ?_⟩;rw [zT7 (by omega)];unfold hdS;rw [hk];simp
theorem gQ7 (s:Sm) (hk:s.k=6) (d:Nat) (hd:d≤64) (hR:zH9 s d=true) (hok:OkS s) (oe ob ol:Option Addr) (ce cb cl:Nat) (bw:Nat) (v:Value) (F:List UInt8) (w:World) (hse:ExRow w (·<n0) oe s.e) (hW:Wr 5 n0 80 bw v F w) (hn0:n0≤w.heap.size) (h0:0<n0) (hsg:Sig w) (hlx:(txX s.e).length≤1099511627776) :
    Ret Tryz.prog 100 [.pointer (some ⟨bw,0,none⟩),.agg (smL s oe ob ol ce cb cl).toArray,.int .i64 (d:Int)] w fun r w'=>r=.tuple #[]∧WrP 5 n0 80 bw v (F++qK6 s d) w w':=by
 refine zB [_,_,_] func100 rfl ntmps100 rfl ?_;have st:=St.init w [];clear st;obtain⟨w0,rfl⟩:∃ w0,w0=w:=⟨_,rfl⟩
 have st:=St.wrInit hW;have hsame:∀ {w1:World},Chg (bw::v.ownBlock.toList) w0 w1→Same (·<n0) w0 w1:=fun c=>hW.same c
 obtain⟨⟨r1,r1b⟩,r2,r3,r4,r5,r6,r7,r8,r9⟩:=rightS_iff.1 hR;obtain⟨x,hx,hlen,hRx⟩:=zP5 (by unfold zW9;simp only [decide_eq_true_eq];omega) r4;have hxt:=qM0 hx;have hkx:=hok.e.2 0 x hx;rw [hxt] at hlx;refine a2 ?_;refine zA3 (zT2 (l:=[_,_,_,_,_,_,_]) st rfl rfl rfl rfl ?_);intro b4 w hb4 st;refine a5 ?_;refine yfz 3 qU67 qZ40 ?_;refine yl st 0 qA40 ?_;refine zA3 (zA1 [_] rfl rfl call156 rfl (qN2 s.e x hx 0 hRx hkx _ _ _ (hse.kept (hsame st.chg)) (Nat.le_trans hn0 st.chg.size) h0 (hsg.kept' st.chg (hW.notin h0)) hlx) ?_);rintro _ w ⟨r,rfl,hT,cw⟩;replace st:=st.call0 cw;have hTl:=hT.2.2.1;simp only [List.length_nil,Nat.zero_add] at hTl;refine zA3 (zY7 (l:=[[112,114,105,110,116,32],r,[59]].map str) (E:=9) st [(0,_),(1,_),(2,_)] rfl rfl rfl (fun w=>by simp [Instr.buildSlice,run_underlying qU50,qZ9,qV9,Instr.fill,newRow,newObj,Sem.run,go_sem]) ?_);intro b11 w hb11 st;refine zA3 (zA1 [_,_,_] rfl rfl call40 rfl (zP6 zK6 bw _ _ d (by omega) [[112,114,105,110,116,32],r,[59]] (by simp) (by simp;omega) b11 _ _ (st.wrGet (i:=2) rfl) (Nat.le_trans hn0 st.chg.size) (fun j x hx=>zD7 (st.res (i:=0) rfl) (zP2 hx)) (fun hk=>zH3 st.nodup (i:=0) (j:=2) (by decide) rfl rfl _ (.head _) hk)) ?_);rintro _ w ⟨rfl,hp⟩;obtain⟨v9,st⟩:=st.wr (i:=2) rfl hp;refine a1 ?_;refine zD4 (.inr rfl) results100 ?_;refine⟨_,rfl,?_⟩;refine⟨rfl,WrP.swap (st.wrDone (i:=2) rfl) ?_⟩;rw [zT7 (by omega)];unfold hdS;rw [hk,hxt];have h:=hT.same (mar d++[112,114,105,110,116,32]) [59,10];simpa [List.append_assoc] using h
theorem gS3 (s:Sm) (hk:s.k=1) (d:Nat) (hd:d≤64) (hR:zH9 s d=true) (hok:OkS s) (oe ob ol:Option Addr) (ce cb cl:Nat) (bw:Nat) (v:Value) (F:List UInt8) (w:World) (hse:ExRow w (·<n0) oe s.e) (hW:Wr 5 n0 80 bw v F w) (hn0:n0≤w.heap.size) (h0:0<n0) (hsg:Sig w) (hlx:(txX s.e).length≤1099511627776) :
    Ret Tryz.prog 96 [.pointer (some ⟨bw,0,none⟩),.agg (smL s oe ob ol ce cb cl).toArray,.int .i64 (d:Int)] w fun r w'=>r=.tuple #[]∧WrP 5 n0 80 bw v (F++qK6 s d) w w':=by
 refine zB [_,_,_] func96 rfl ntmps96 rfl ?_;have st:=St.init w [];clear st;obtain⟨w0,rfl⟩:∃ w0,w0=w:=⟨_,rfl⟩
 have st:=St.wrInit hW;have hsame:∀ {w1:World},Chg (bw::v.ownBlock.toList) w0 w1→Same (·<n0) w0 w1:=fun c=>hW.same c
 obtain⟨⟨r1,r1b⟩,r2,r3,r4,r5,r6,r7,r8,r9⟩:=rightS_iff.1 hR;obtain⟨x,hx,hlen,hRx⟩:=zP5 (by unfold zW9;simp only [decide_eq_true_eq];omega) r4;have hxt:=qM0 hx;have hkx:=hok.e.2 0 x hx;rw [hxt] at hlx
 have hnm:s.nm.length≤32:=by
  rw [show qF6 s.k=true by unfold qF6;simp only [decide_eq_true_eq];omega] at r2
  exact zL9 (by simpa [zR9] using r2)
 refine a2 ?_;refine zA3 (zT2 (l:=[_,_,_,_,_,_,_]) st rfl rfl rfl rfl ?_);intro b4 w hb4 st;refine a2 ?_;refine vdr Tryz.mixed [Yt 0,Yt 1,Yt 2,Yt 3,Yt 4,Yt 5,Nt 6,Nt 7,Nt 8] [.blk b4 (.cells (smL s oe ob ol ce cb cl).toArray 67 (0,0))] st ?_;clear st;intro w st hS;(iterate 2 refine pm hS ?_);refine pfz hS 1 qU67 qZ9 ?_;refine pld hS 0 qA9 ?_;refine pfz hS 3 qU67 qZ40 ?_;refine pld hS 0 qA40 ?_;refine zD0 rfl (zA1 [_] rfl rfl call156 rfl (qN2 s.e x hx 0 hRx hkx _ _ _ (hse.kept (hsame st.chg)) (Nat.le_trans hn0 st.chg.size) h0 (hsg.kept' st.chg (hW.notin h0)) hlx) ?_);rintro _ w ⟨r,rfl,hT,cw⟩;replace st:=st.call0 cw;have hTl:=hT.2.2.1;simp only [List.length_nil,Nat.zero_add] at hTl;refine zA9 st.dr ?_;intro hS;refine zD0 rfl (zY7 (l:=[s.nm,[32,61,32],r,[59]].map str) (E:=9) st [(0,_),(1,_),(2,_),(3,_)] rfl rfl rfl (fun w=>by simp [Instr.buildSlice,run_underlying qU50,qZ9,qV9,Instr.fill,newRow,newObj,Sem.run,go_sem]) ?_);intro b13 w hb13 st;refine zA9 st.dr ?_;intro hS;refine zD0 rfl (zA1 [_,_,_] rfl rfl call40 rfl (zP6 zK6 bw _ _ d (by omega) [s.nm,[32,61,32],r,[59]] (by simp) (by simp;omega) b13 _ _ (st.wrGet (i:=2) rfl) (Nat.le_trans hn0 st.chg.size) (fun j x hx=>zD7 (st.res (i:=0) rfl) (zP2 hx)) (fun hk=>zH3 st.nodup (i:=0) (j:=2) (by decide) rfl rfl _ (.head _) hk)) ?_);rintro _ w ⟨rfl,hp⟩;obtain⟨v9,st⟩:=st.wr (i:=2) rfl hp;refine zA9 st.dr ?_;intro hS;refine zC6 ?_;refine zD4 (.inr rfl) results96 ?_;refine⟨_,rfl,?_⟩;refine⟨rfl,WrP.swap (st.wrDone (i:=2) rfl) ?_⟩;rw [zT7 (by omega)];unfold hdS;rw [hk,hxt];have h:=hT.same (mar d++(s.nm++[32,61,32])) [59,10];simpa [List.append_assoc] using h
theorem kL4 (s:Sm) (hk:s.k=2) (d:Nat) (hd:d≤64) (hR:zH9 s d=true) (hok:OkS s) (oe ob ol:Option Addr) (ce cb cl:Nat) (bw:Nat) (v:Value) (F:List UInt8) (w:World) (hse:ExRow w (·<n0) oe s.e) (hW:Wr 5 n0 80 bw v F w) (hn0:n0≤w.heap.size) (h0:0<n0) (hsg:Sig w) (hlx:(txX s.e).length≤1099511627776) :
    Ret Tryz.prog 97 [.pointer (some ⟨bw,0,none⟩),.agg (smL s oe ob ol ce cb cl).toArray,.int .i64 (d:Int)] w fun r w'=>r=.tuple #[]∧WrP 5 n0 80 bw v (F++qK6 s d) w w':=by
 refine zB [_,_,_] func97 rfl ntmps97 rfl ?_;have st:=St.init w [];clear st;obtain⟨w0,rfl⟩:∃ w0,w0=w:=⟨_,rfl⟩
 have st:=St.wrInit hW;have hsame:∀ {w1:World},Chg (bw::v.ownBlock.toList) w0 w1→Same (·<n0) w0 w1:=fun c=>hW.same c
 obtain⟨⟨r1,r1b⟩,r2,r3,r4,r5,r6,r7,r8,r9⟩:=rightS_iff.1 hR;obtain⟨x,hx,hlen,hRx⟩:=zP5 (by unfold zW9;simp only [decide_eq_true_eq];omega) r4;have hxt:=qM0 hx;have hkx:=hok.e.2 0 x hx;rw [hxt] at hlx
 have hnm:s.nm.length≤32:=by
  rw [show qF6 s.k=true by unfold qF6;simp only [decide_eq_true_eq];omega] at r2
  exact zL9 (by simpa [zR9] using r2)
 have hot:s.other.length≤32:=by
  rw [show decide (s.k=2)=true by simp only [decide_eq_true_eq];omega] at r3
  exact zL9 (by simpa [zR9] using r3)
 refine a2 ?_;refine zA3 (zT2 (l:=[_,_,_,_,_,_,_]) st rfl rfl rfl rfl ?_);intro b4 w hb4 st;refine a2 ?_;refine vdr Tryz.mixed [Yt 0,Yt 1,Yt 2,Yt 3,Yt 4,Yt 5,Yt 6,Yt 7,Nt 8,Nt 9,Nt 10] [.blk b4 (.cells (smL s oe ob ol ce cb cl).toArray 67 (0,0))] st ?_;clear st;intro w st hS;(iterate 2 refine pm hS ?_);refine pfz hS 1 qU67 qZ9 ?_;refine pld hS 0 qA9 ?_;refine pfz hS 2 qU67 qZ9 ?_;refine pld hS 0 qA9 ?_;refine pfz hS 3 qU67 qZ40 ?_;refine pld hS 0 qA40 ?_;refine zD0 rfl (zA1 [_] rfl rfl call156 rfl (qN2 s.e x hx 0 hRx hkx _ _ _ (hse.kept (hsame st.chg)) (Nat.le_trans hn0 st.chg.size) h0 (hsg.kept' st.chg (hW.notin h0)) hlx) ?_);rintro _ w ⟨r,rfl,hT,cw⟩;replace st:=st.call0 cw;have hTl:=hT.2.2.1;simp only [List.length_nil,Nat.zero_add] at hTl;refine zA9 st.dr ?_;intro hS;refine zD0 rfl (zY7 (l:=[s.nm,[32,61,32,115,119,97,112,40],s.other,[44,32],r,[41,59]].map str) (E:=9) st [(0,_),(1,_),(2,_),(3,_),(4,_),(5,_)] rfl rfl rfl (fun w=>by simp [Instr.buildSlice,run_underlying qU50,qZ9,qV9,Instr.fill,newRow,newObj,Sem.run,go_sem]) ?_);intro b15 w hb15 st;refine zA9 st.dr ?_;intro hS;refine zD0 rfl (zA1 [_,_,_] rfl rfl call40 rfl (zP6 zK6 bw _ _ d (by omega) [s.nm,[32,61,32,115,119,97,112,40],s.other,[44,32],r,[41,59]] (by simp) (by simp;omega) b15 _ _ (st.wrGet (i:=2) rfl) (Nat.le_trans hn0 st.chg.size) (fun j x hx=>zD7 (st.res (i:=0) rfl) (zP2 hx)) (fun hk=>zH3 st.nodup (i:=0) (j:=2) (by decide) rfl rfl _ (.head _) hk)) ?_);rintro _ w ⟨rfl,hp⟩;obtain⟨v9,st⟩:=st.wr (i:=2) rfl hp;refine zA9 st.dr ?_;intro hS;refine zC6 ?_;refine zD4 (.inr rfl) results97 ?_;refine⟨_,rfl,?_⟩;refine⟨rfl,WrP.swap (st.wrDone (i:=2) rfl) ?_⟩;rw [zT7 (by omega)];unfold hdS;rw [hk,hxt];have h:=hT.same (mar d++(s.nm++[32,61,32,115,119,97,112,40]++s.other++[44,32])) [41,59,10];simpa [List.append_assoc] using h
end
section
variable {n0:Nat}
theorem kP9 (s:Sm) (hk:s.k=5) (d:Nat) (hd:d≤64) (hR:zH9 s d=true) (hok:OkS s) (oe ob ol:Option Addr) (ce cb cl:Nat) (bw:Nat) (v:Value) (F:List UInt8) (w:World) (hse:ExRow w (·<n0) oe s.e) (hsb:SmRow w (·<n0) ob s.body) (hsl:SmRow w (·<n0) ol s.els) (hW:Wr 5 n0 80 bw v F w) (hn0:n0≤w.heap.size) (h0:0<n0) (hsg:Sig w) (hlx:(txX s.e).length≤1099511627776) (hrec:∀ (l:List Sm),(l=s.body∨l=s.els)→∀ (bw:Nat) (v:Value) (F:List UInt8) (oa:Option Addr) (cap:Nat) (w:World),SmRow w (·<n0) oa l→Wr 5 n0 80 bw v F w→n0≤w.heap.size→Sig w→d<64→
      Ret Tryz.prog 41 [.pointer (some ⟨bw,0,none⟩),.slice oa l.length cap,.int .i64 ((d+1:Nat):Int)] w fun r w'=>r=.tuple #[]∧WrP 5 n0 80 bw v (F++zJ6 l (d+1)) w w') :
  Ret Tryz.prog 99 [.pointer (some ⟨bw,0,none⟩),.agg (smL s oe ob ol ce cb cl).toArray,.int .i64 (d:Int)] w fun r w'=>r=.tuple #[]∧WrP 5 n0 80 bw v (F++qK6 s d) w w':=by
 refine zB [_,_,_] func99 rfl ntmps99 rfl ?_;have st:=St.init w [];clear st;obtain⟨w0,rfl⟩:∃ w0,w0=w:=⟨_,rfl⟩
 have st:=St.wrInit hW;have hsame:∀ {w1:World},Chg (bw::v.ownBlock.toList) w0 w1→Same (·<n0) w0 w1:=fun c=>hW.same c
 obtain⟨⟨r1,r1b⟩,r2,r3,r4,r5,r6,r7,r8,r9⟩:=rightS_iff.1 hR
 have hnm:s.nm.length≤32:=by
  rw [show qF6 s.k=true by unfold qF6;simp only [decide_eq_true_eq];omega] at r2
  exact zL9 (by simpa [zR9] using r2)
 have hd64:d<64:=by
  rcases r7 with h|h
  ·have hB:qA1 s.k=true:=by unfold qA1;simp only [decide_eq_true_eq];omega
   rw [hB] at h;cases h.1
  ·exact h
 refine a2 ?_;refine zA3 (zT2 (l:=[_,_,_,_,_,_,_]) st rfl rfl rfl rfl ?_);intro b4 w hb4 st;refine a6 ?_;refine yfz 1 qU67 qZ9 ?_;refine yl st 0 qA9 ?_;refine zA3 (zY7 (l:=[[108,111,99,107,32],s.nm,[32,123]].map str) (E:=9) st [(0,_),(1,_),(2,_)] rfl rfl rfl (fun w=>by simp [Instr.buildSlice,run_underlying qU50,qZ9,qV9,Instr.fill,newRow,newObj,Sem.run,go_sem]) ?_);intro b10 w hb10 st;refine zA3 (zA1 [_,_,_] rfl rfl call40 rfl (zP6 zK6 bw _ _ d (by omega) [[108,111,99,107,32],s.nm,[32,123]] (by simp) (by simp;omega) b10 _ _ (st.wrGet (i:=2) rfl) (Nat.le_trans hn0 st.chg.size) (fun j x hx=>zD7 (st.res (i:=0) rfl) (zP2 hx)) (fun hk=>zH3 st.nodup (i:=0) (j:=2) (by decide) rfl rfl _ (.head _) hk)) ?_);rintro _ w ⟨rfl,hp⟩;obtain⟨v9,st⟩:=st.wr (i:=2) rfl hp;refine a5 ?_;refine yfz 4 qU67 qZ65 ?_;refine yl st 1 qA65 ?_;refine a1 ?_;refine vy (yin ((d+1:Nat):Int)) ?_;refine zA3 (zA1 [_,_,_] rfl rfl call41 rfl (hrec _ (.inl rfl) bw _ _ _ _ _ (hsb.kept (hsame st.chg)) (st.wrGet (i:=2) rfl) (Nat.le_trans hn0 st.chg.size) (hsg.kept' st.chg (hW.notin h0)) hd64) ?_);rintro _ w ⟨rfl,hp⟩;obtain⟨v9,st⟩:=st.wr (i:=2) rfl hp;refine a5 ?_;refine zA3 (zY7 (l:=[[125]].map str) (E:=9) st [(0,_)] rfl rfl rfl (fun w=>by simp [Instr.buildSlice,run_underlying qU50,qZ9,qV9,Instr.fill,newRow,newObj,Sem.run,go_sem]) ?_);intro b20 w hb20 st;refine zA3 (zA1 [_,_,_] rfl rfl call40 rfl (zP6 zK6 bw _ _ d (by omega) [[125]] (by simp) (by simp) b20 _ _ (st.wrGet (i:=3) rfl) (Nat.le_trans hn0 st.chg.size) (fun j x hx=>zD7 (st.res (i:=0) rfl) (zP2 hx)) (fun hk=>zH3 st.nodup (i:=0) (j:=3) (by decide) rfl rfl _ (.head _) hk)) ?_);rintro _ w ⟨rfl,hp⟩;obtain⟨v9,st⟩:=st.wr (i:=3) rfl hp;refine a1 ?_;refine zD4 (.inr rfl) results99 ?_;refine⟨_,rfl,?_⟩;refine⟨rfl,(st.wrDone (i:=3) rfl).eq ?_⟩;rw [gB1 hk];unfold hdS;rw [hk];simp [List.append_assoc]
theorem gM5 (s:Sm) (hk:s.k=3∨s.k=4) (d:Nat) (hd:d≤64) (hR:zH9 s d=true) (hok:OkS s) (oe ob ol:Option Addr) (ce cb cl:Nat) (bw:Nat) (v:Value) (F:List UInt8) (w:World) (hse:ExRow w (·<n0) oe s.e) (hsb:SmRow w (·<n0) ob s.body) (hsl:SmRow w (·<n0) ol s.els) (hW:Wr 5 n0 80 bw v F w) (hn0:n0≤w.heap.size) (h0:0<n0) (hsg:Sig w) (hlx:(txX s.e).length≤1099511627776) (hrec:∀ (l:List Sm),(l=s.body∨l=s.els)→∀ (bw:Nat) (v:Value) (F:List UInt8) (oa:Option Addr) (cap:Nat) (w:World),SmRow w (·<n0) oa l→Wr 5 n0 80 bw v F w→n0≤w.heap.size→Sig w→d<64→
      Ret Tryz.prog 41 [.pointer (some ⟨bw,0,none⟩),.slice oa l.length cap,.int .i64 ((d+1:Nat):Int)] w fun r w'=>r=.tuple #[]∧WrP 5 n0 80 bw v (F++zJ6 l (d+1)) w w') :
  Ret Tryz.prog 98 [.pointer (some ⟨bw,0,none⟩),.agg (smL s oe ob ol ce cb cl).toArray,.int .i64 (d:Int)] w fun r w'=>r=.tuple #[]∧WrP 5 n0 80 bw v (F++qK6 s d) w w':=by
 refine zB [_,_,_] func98 rfl ntmps98 rfl ?_;have st:=St.init w [];clear st;obtain⟨w0,rfl⟩:∃ w0,w0=w:=⟨_,rfl⟩
 have st:=St.wrInit hW;have hsame:∀ {w1:World},Chg (bw::v.ownBlock.toList) w0 w1→Same (·<n0) w0 w1:=fun c=>hW.same c
 obtain⟨⟨r1,r1b⟩,r2,r3,r4,r5,r6,r7,r8,r9⟩:=rightS_iff.1 hR;obtain⟨x,hx,hlen,hRx⟩:=zP5 (by unfold zW9;simp only [decide_eq_true_eq];omega) r4;have hxt:=qM0 hx;have hkx:=hok.e.2 0 x hx;rw [hxt] at hlx
 have hd64:d<64:=by
  rcases r7 with h|h
  ·have hB:qA1 s.k=true:=by unfold qA1;simp only [decide_eq_true_eq];omega
   rw [hB] at h;cases h.1
  ·exact h
 refine a2 ?_;refine zA3 (zT2 (l:=[_,_,_,_,_,_,_]) st rfl rfl rfl rfl ?_);intro b4 w hb4 st;refine a7 ?_;refine zL2 (w0:=w0) (M:=(bw::v.ownBlock.toList)) (fun (_:Unit)=>[(0,.pointer (some ⟨bw,0,none⟩)),(2,.int .i64 (d:Int)),(4,.pointer (some ⟨b4,0,none⟩)),(6,str (if s.k=4 then [119,104,105,108,101,32,40] else [105,102,32,40]))]) (fun _=>[.blk b4 (.cells (smL s oe ob ol ce cb cl).toArray 67 (0,0)),wrR (bw::v.ownBlock.toList) w0.heap.size 5 n0 80 bw v F]) (fun _ _=>True) ?_ ?_
 ·refine a2 ?_;refine vy (zC3 rfl qU67 rfl rfl qZ64 rfl) ?_;refine yl st 0 qA64 ?_;refine a3 ?_;refine vif ?_ ?_;intro hc9;(try simp only [dn] at hc9);refine a3 ?_
  rotate_left
  intro hc9;(try simp only [dn] at hc9);refine a1 ?_
  all_goals
   refine zB8 () ⟨rfl,rfl,rfl,by simp only [Sx.put,find,Nat.beq];first|rw [if_pos (by assumption)]|rw [if_neg (by assumption)],trivial⟩ st ?_;trivial
 clear st;rintro ⟨⟩ w - st;refine a5 ?_;refine yfz 3 qU67 qZ40 ?_;refine yl st 0 qA40 ?_;refine zA3 (zA1 [_] rfl rfl call156 rfl (qN2 s.e x hx 0 hRx hkx _ _ _ (hse.kept (hsame st.chg)) (Nat.le_trans hn0 st.chg.size) h0 (hsg.kept' st.chg (hW.notin h0)) hlx) ?_);rintro _ w ⟨r,rfl,hT,cw⟩;replace st:=st.call0 cw;have hTl:=hT.2.2.1;simp only [List.length_nil,Nat.zero_add] at hTl;refine zA3 (zY7 (l:=[(if s.k=4 then [119,104,105,108,101,32,40] else [105,102,32,40]),r,[41,32,123]].map str) (E:=9) st [(0,_),(1,_),(2,_)] rfl rfl rfl (fun w=>by simp [Instr.buildSlice,run_underlying qU50,qZ9,qV9,Instr.fill,newRow,newObj,Sem.run,go_sem]) ?_);intro b16 w hb16 st;refine zA3 (zA1 [_,_,_] rfl rfl call40 rfl (zP6 zK6 bw _ _ d (by omega) [(if s.k=4 then [119,104,105,108,101,32,40] else [105,102,32,40]),r,[41,32,123]] (by simp) (by simp;split <;> simp <;> omega) b16 _ _ (st.wrGet (i:=2) rfl) (Nat.le_trans hn0 st.chg.size) (fun j x hx=>zD7 (st.res (i:=0) rfl) (zP2 hx)) (fun hk=>zH3 st.nodup (i:=0) (j:=2) (by decide) rfl rfl _ (.head _) hk)) ?_);rintro _ w ⟨rfl,hp⟩;obtain⟨v9,st⟩:=st.wr (i:=2) rfl hp;dsimp only [zA0] at st;refine a5 ?_;refine yfz 4 qU67 qZ65 ?_;refine yl st 1 qA65 ?_;refine a1 ?_;refine vy (yin ((d+1:Nat):Int)) ?_;refine zA3 (zA1 [_,_,_] rfl rfl call41 rfl (hrec _ (.inl rfl) bw _ _ _ _ _ (hsb.kept (hsame st.chg)) (st.wrGet (i:=2) rfl) (Nat.le_trans hn0 st.chg.size) (hsg.kept' st.chg (hW.notin h0)) hd64) ?_);rintro _ w ⟨rfl,hp⟩;obtain⟨v9,st⟩:=st.wr (i:=2) rfl hp;dsimp only [zA0] at st;refine a5 ?_;refine yfz 5 qU67 qZ65 ?_;refine yl st 1 qA65 ?_;refine vy (zB1 rfl qU65) ?_;refine a3 ?_;refine vif ?_ ?_;intro hc27;(try simp only [dn] at hc27);refine a4 ?_;refine zA3 (zY7 (l:=[[125,32,101,108,115,101,32,123]].map str) (E:=9) st [(0,_)] rfl rfl rfl (fun w=>by simp [Instr.buildSlice,run_underlying qU50,qZ9,qV9,Instr.fill,newRow,newObj,Sem.run,go_sem]) ?_);intro b30 w hb30 st;refine zA3 (zA1 [_,_,_] rfl rfl call40 rfl (zP6 zK6 bw _ _ d (by omega) [[125,32,101,108,115,101,32,123]] (by simp) (by simp) b30 _ _ (st.wrGet (i:=3) rfl) (Nat.le_trans hn0 st.chg.size) (fun j x hx=>zD7 (st.res (i:=0) rfl) (zP2 hx)) (fun hk=>zH3 st.nodup (i:=0) (j:=3) (by decide) rfl rfl _ (.head _) hk)) ?_);rintro _ w ⟨rfl,hp⟩;obtain⟨v9,st⟩:=st.wr (i:=3) rfl hp;dsimp only [zA0] at st;refine a4 ?_;refine yfz 5 qU67 qZ65 ?_;refine yl st 2 qA65 ?_;refine a1 ?_;refine vy (yin ((d+1:Nat):Int)) ?_;refine zA3 (zA1 [_,_,_] rfl rfl call41 rfl (hrec _ (.inr rfl) bw _ _ _ _ _ (hsl.kept (hsame st.chg)) (st.wrGet (i:=3) rfl) (Nat.le_trans hn0 st.chg.size) (hsg.kept' st.chg (hW.notin h0)) hd64) ?_);rintro _ w ⟨rfl,hp⟩
 obtain⟨v9,st⟩:=st.wr (i:=3) rfl hp;dsimp only [zA0] at st;refine a5 ?_;refine zA3 (zY7 (l:=[[125]].map str) (E:=9) st [(0,_)] rfl rfl rfl (fun w=>by simp [Instr.buildSlice,run_underlying qU50,qZ9,qV9,Instr.fill,newRow,newObj,Sem.run,go_sem]) ?_);intro b40 w hb40 st;refine zA3 (zA1 [_,_,_] rfl rfl call40 rfl (zP6 zK6 bw _ _ d (by omega) [[125]] (by simp) (by simp) b40 _ _ (st.wrGet (i:=4) rfl) (Nat.le_trans hn0 st.chg.size) (fun j x hx=>zD7 (st.res (i:=0) rfl) (zP2 hx)) (fun hk=>zH3 st.nodup (i:=0) (j:=4) (by decide) rfl rfl _ (.head _) hk)) ?_);rintro _ w ⟨rfl,hp⟩;obtain⟨v9,st⟩:=st.wr (i:=4) rfl hp;dsimp only [zA0] at st;refine a1 ?_;refine zD4 (.inr rfl) results98 ?_;refine⟨_,rfl,?_⟩;refine⟨rfl,WrP.swap (G':=mar d++(if s.k=4 then [119,104,105,108,101,32,40] else [105,102,32,40])++r++([41,32,123,10]++zJ6 s.body (d+1)++(mar d++[125,32,101,108,115,101,32,123,10]++zJ6 s.els (d+1))++mar d++[125,10])) ((st.wrDone (i:=4) rfl).eq (by simp [List.append_assoc])) ?_⟩;rw [zT8 hk,if_pos (c:=0<s.els.length) (by omega)];unfold hdS;rw [if_neg (c:=s.k=1) (by omega),if_neg (c:=s.k=2) (by omega),if_neg (c:=s.k=6) (by omega),if_neg (c:=s.k=7) (by omega),if_neg (c:=s.k=5) (by omega),hxt];have h:=hT.same (mar d++(if s.k=4 then [119,104,105,108,101,32,40] else [105,102,32,40])) ([41,32,123,10]++zJ6 s.body (d+1)++(mar d++[125,32,101,108,115,101,32,123,10]++zJ6 s.els (d+1))++mar d++[125,10])
 rotate_left
 intro hc27;(try simp only [dn] at hc27);refine a5 ?_;refine zA3 (zY7 (l:=[[125]].map str) (E:=9) st [(0,_)] rfl rfl rfl (fun w=>by simp [Instr.buildSlice,run_underlying qU50,qZ9,qV9,Instr.fill,newRow,newObj,Sem.run,go_sem]) ?_);intro b40 w hb40 st;refine zA3 (zA1 [_,_,_] rfl rfl call40 rfl (zP6 zK6 bw _ _ d (by omega) [[125]] (by simp) (by simp) b40 _ _ (st.wrGet (i:=3) rfl) (Nat.le_trans hn0 st.chg.size) (fun j x hx=>zD7 (st.res (i:=0) rfl) (zP2 hx)) (fun hk=>zH3 st.nodup (i:=0) (j:=3) (by decide) rfl rfl _ (.head _) hk)) ?_);rintro _ w ⟨rfl,hp⟩;obtain⟨v9,st⟩:=st.wr (i:=3) rfl hp;dsimp only [zA0] at st;refine a1 ?_;refine zD4 (.inr rfl) results98 ?_;refine⟨_,rfl,?_⟩;refine⟨rfl,WrP.swap (G':=mar d++(if s.k=4 then [119,104,105,108,101,32,40] else [105,102,32,40])++r++([41,32,123,10]++zJ6 s.body (d+1)++mar d++[125,10])) ((st.wrDone (i:=3) rfl).eq (by simp [List.append_assoc])) ?_⟩;rw [zT8 hk,if_neg (c:=0<s.els.length) (by omega)];unfold hdS;rw [if_neg (c:=s.k=1) (by omega),if_neg (c:=s.k=2) (by omega),if_neg (c:=s.k=6) (by omega),if_neg (c:=s.k=7) (by omega),if_neg (c:=s.k=5) (by omega),hxt];have h:=hT.same (mar d++(if s.k=4 then [119,104,105,108,101,32,40] else [105,102,32,40])) ([41,32,123,10]++zJ6 s.body (d+1)++mar d++[125,10])
 all_goals
  simpa only [List.append_assoc,List.nil_append] using h
end
theorem jN1 {s:Sm} {d:Nat} (h:zH9 s d=true):(txX s.e).length≤(qK6 s d).length:=by
 obtain⟨⟨r1,r1b⟩,r2,r3,r4,r5,r6,r7,r8,r9⟩:=rightS_iff.1 h;rcases (by omega:s.k=1∨s.k=2∨s.k=3∨s.k=4∨s.k=5∨s.k=6∨s.k=7) with h|h|h|h|h|h|h;rw [zT7 (by omega)];unfold hdS;rw [h];simp;omega;rw [zT7 (by omega)];unfold hdS;rw [h];simp;omega;rw [zT8 (by omega)];unfold hdS;rw [h];simp;omega;rw [zT8 (by omega)];unfold hdS;rw [h];simp;omega;have h0:s.e.length=0:=by rw [h] at r4;simpa [zH5,zW9] using r4
 rw [List.eq_nil_of_length_eq_zero h0];simp [txX];rw [zT7 (by omega)];unfold hdS;rw [h];simp;omega;have h0:s.e.length=0:=by rw [h] at r4;simpa [zH5,zW9] using r4
 rw [List.eq_nil_of_length_eq_zero h0];simp [txX]
theorem kO3 {s:Sm} {d:Nat} {l:List Sm} (h:zH9 s d=true) (hl:l=s.body∨l=s.els):(zJ6 l (d+1)).length≤(qK6 s d).length:=by
 obtain⟨⟨r1,r1b⟩,r2,r3,r4,r5,r6,r7,r8,r9⟩:=rightS_iff.1 h
 by_cases h0:l.length=0
 rw [List.eq_nil_of_length_eq_zero h0];simp [zJ6];rcases hl with rfl|rfl;have hB:qA1 s.k=true:=r5.resolve_right h0;unfold qA1 at hB;simp only [decide_eq_true_eq] at hB;rcases (by omega:s.k=5∨(s.k=3∨s.k=4)) with h|h;rw [gB1 h];simp;omega;rw [zT8 h];simp;omega;have hk:s.k=3:=r6.resolve_right h0;rw [zT8 (.inl hk),if_pos (by omega)];simp;omega
theorem jE6 {ss:List Sm} {d j:Nat} {s:Sm} (h:ss[j]?=some s):(qK6 s d).length≤(zJ6 ss d).length:=by
 rw [qJ9 ss d (j+1),qQ7 h];simp;omega
def fnV (f bw:Nat):Value:=.func (.func f) #[.pointer (some ⟨bw,0,none⟩)] #[]
def jJ2 (bw:Nat):List Value:=[.nilFunc,fnV 96 bw,fnV 97 bw,fnV 98 bw,fnV 98 bw,fnV 99 bw,fnV 100 bw,fnV 101 bw]
def jI7 (m:Nat):Nat:=[101,96,97,98,98,99,100,101].getD m 101
theorem jC9 (m bw:Nat) (h1:1≤m) (h7:m≤7):nth (jJ2 bw) (m*1)=some (fnV (jI7 m) bw):=by
 rcases (by omega:m=1∨m=2∨m=3∨m=4∨m=5∨m=6∨m=7) with rfl|rfl|rfl|rfl|rfl|rfl|rfl <;> rfl
theorem jN0 {w:World} {b E bw m:Nat} (h:w.heap[b]?=some (.cells (jJ2 bw).toArray E (0,0))) (h1:1≤m) (h7:m≤7):w.cell? ⟨b,0+m*1,none⟩=some (fnV (jI7 m) bw):=by
 rw [Nat.zero_add];exact zD7 h (jC9 m bw h1 h7)
theorem kP2 (m:Nat) (h1:1≤m) (h7:m≤7):∀ (xs:Array Value) w,(callFunc (jI7 m) xs).run Tryz.prog w=.ok (.enter (jI7 m) xs) w:=by
 rcases (by omega:m=1∨m=2∨m=3∨m=4∨m=5∨m=6∨m=7) with rfl|rfl|rfl|rfl|rfl|rfl|rfl;exact call96;exact call97;exact call98;exact call98;exact call99;exact call100;exact call101
section
variable {n0:Nat}
theorem kG2 (s:Sm) (m:Nat) (hm:s.k=(m:Int)) (d:Nat) (hd:d≤64) (hR:zH9 s d=true) (hok:OkS s) (oe ob ol:Option Addr) (ce cb cl:Nat) (bw:Nat) (v:Value) (F:List UInt8) (w:World) (hse:ExRow w (·<n0) oe s.e) (hsb:SmRow w (·<n0) ob s.body) (hsl:SmRow w (·<n0) ol s.els) (hW:Wr 5 n0 80 bw v F w) (hn0:n0≤w.heap.size) (h0:0<n0) (hsg:Sig w) (hlx:(txX s.e).length≤1099511627776) (hrec:∀ (l:List Sm),(l=s.body∨l=s.els)→∀ (bw:Nat) (v:Value) (F:List UInt8) (oa:Option Addr) (cap:Nat) (w:World),SmRow w (·<n0) oa l→Wr 5 n0 80 bw v F w→n0≤w.heap.size→Sig w→d<64→
      Ret Tryz.prog 41 [.pointer (some ⟨bw,0,none⟩),.slice oa l.length cap,.int .i64 ((d+1:Nat):Int)] w fun r w'=>r=.tuple #[]∧WrP 5 n0 80 bw v (F++zJ6 l (d+1)) w w') :
  Ret Tryz.prog (jI7 m) ([.pointer (some ⟨bw,0,none⟩)]++[.agg (smL s oe ob ol ce cb cl).toArray,.int .i64 (d:Int)]++[]) w fun r w'=>r=.tuple #[]∧WrP 5 n0 80 bw v (F++qK6 s d) w w':=by
 obtain⟨⟨r1,r1b⟩,-⟩:=rightS_iff.1 hR;rcases (by omega:m=1∨m=2∨m=3∨m=4∨m=5∨m=6∨m=7) with rfl|rfl|rfl|rfl|rfl|rfl|rfl;exact gS3 s hm d hd hR hok oe ob ol ce cb cl bw v F w hse hW hn0 h0 hsg hlx;exact kL4 s hm d hd hR hok oe ob ol ce cb cl bw v F w hse hW hn0 h0 hsg hlx;exact gM5 s (.inl hm) d hd hR hok oe ob ol ce cb cl bw v F w hse hsb hsl hW hn0 h0 hsg hlx hrec;exact gM5 s (.inr hm) d hd hR hok oe ob ol ce cb cl bw v F w hse hsb hsl hW hn0 h0 hsg hlx hrec;exact kP9 s hm d hd hR hok oe ob ol ce cb cl bw v F w hse hsb hsl hW hn0 h0 hsg hlx hrec;exact gQ7 s hm d hd hR hok oe ob ol ce cb cl bw v F w hse hW hn0 h0 hsg hlx;exact kL9 s hm d hd oe ob ol ce cb cl bw v F w hW hn0
set_option maxHeartbeats 1000000 in
theorem kD8:∀ (n:Nat) (ss:List Sm),szo ss=n→∀ (d:Nat),d≤64→zE3 ss d=true→qO ss→(zJ6 ss d).length≤1099511627776→∀ (bw:Nat) (v:Value) (F:List UInt8) (oa:Option Addr) (cap:Nat) (w:World),SmRow w (·<n0) oa ss→Wr 5 n0 80 bw v F w→n0≤w.heap.size→0<n0→Sig w→
    Ret Tryz.prog 41 [.pointer (some ⟨bw,0,none⟩),.slice oa ss.length cap,.int .i64 (d:Int)] w fun r w'=>r=.tuple #[]∧WrP 5 n0 80 bw v (F++zJ6 ss d) w w':=by
 intro n;refine Nat.strongRecOn n fun n ih=>?_
 intro ss hn d hd hR hok hlen bw v F oa cap w hr hW hn0 h0 hsg;subst hn;have hssl:=hok.1;refine zB [_,_,_] func41 rfl ntmps41 rfl ?_;have st:=St.init w [];clear st;obtain⟨w0,rfl⟩:∃ w0,w0=w:=⟨_,rfl⟩
 have st:=St.wrInit hW;have hsame:∀ {w1:World},Chg (bw::v.ownBlock.toList) w0 w1→Same (·<n0) w0 w1:=fun c=>hW.same c
 refine a3 ?_;refine vy (qT7 [_] [] rfl rfl) ?_;refine a1 ?_;refine vy (qT7 [_] [] rfl rfl) ?_;refine a1 ?_;refine vy (qT7 [_] [] rfl rfl) ?_;refine a1 ?_;refine vy (qT7 [_] [] rfl rfl) ?_;refine a1 ?_;refine vy (qT7 [_] [] rfl rfl) ?_;refine a1 ?_;refine vy (qT7 [_] [] rfl rfl) ?_;refine a1 ?_;refine vy (qT7 [_] [] rfl rfl) ?_;refine vy (ybd (.agg #[_,_,_,_,_,_,_,_]) [(1,_),(2,_),(3,_),(4,_),(5,_),(6,_),(7,_)]) ?_;refine zA3 (zF8 (l:=[_,_,_,_,_,_,_,_]) st rfl rfl zeroValue134 rfl ?_);intro b6 w hb6 st;refine zA3 (zC4 st 0 [_,_,_,_,_,_,_,_] sizeOf134 ?_);intro w st;dsimp only [zA0,wr] at st;refine a5 ?_;refine vy (zB1 rfl qU65) ?_;refine a4 ?_;refine zC (w0:=w0) (M:=(bw::v.ownBlock.toList)) (fun (x:Nat×Value)=>[(0,.pointer (some ⟨bw,0,none⟩)),(2,.int .i64 (d:Int)),(6,.pointer (some ⟨b6,0,none⟩)),(24,.slice oa ss.length cap),(25,.int .i64 (ss.length:Int)),(26,.int .i64 (x.1:Int))]) (fun x=>[.blk b6 (.cells (jJ2 bw).toArray 134 (0,0)),wrR (bw::v.ownBlock.toList) w0.heap.size 5 n0 80 bw x.2 (F++zJ6 (ss.take x.1) d)]) (fun x _=>x.1≤ss.length) (fun x=>ss.length - x.1) (0,v) ⟨rfl,rfl,rfl,rfl,rfl,rfl,trivial⟩ (by simpa [zJ6,jJ2,fnV] using st) (by simp) ?_;clear st;rintro ⟨j,v1⟩ w hj st;dsimp only at *;refine a6 ?_;refine vif ?_ ?_;intro hc27;(try simp only [dn] at hc27);obtain⟨s,hsj⟩:∃ s,ss[j]?=some s:=⟨_,List.getElem?_eq_getElem (by omega)⟩
 obtain⟨gb,go,rfl,hgS,hgl,hg⟩:=SmRow.at hr (by omega);obtain⟨oe,ob,ol,ce,cb,cl,hsV,hse,hsb,hsl,hc⟩:=hg j s hsj;have hks:=hok.2 j s hsj;have hz:=zF2 hsj;have hB:szo s.body<szo ss:=by have:=(qL s).1;omega
 have hL:szo s.els<szo ss:=by have:=(qL s).2;omega
 have hRs:=qK3 hR hsj;have hRi:=rightS_iff.1 hRs;have hk17:=hRi.1;have hts:=jE6 (d:=d) hsj;have htx:=jN1 hRs;obtain⟨m,hm⟩:∃ m:Nat,s.k=(m:Int):=⟨s.k.toNat,by omega⟩
 refine a6 ?_;refine vy (zM3 (k:=j) rfl rfl qU65 qZ67 rfl (by omega)) ?_;refine vy (zE6 (smL s oe ob ol ce cb cl) rfl qA67 qZ67 rfl (fun i v hi=>st.chg.cell (hc i v hi) (hW.notin hgS))) ?_;refine zA3 (zF8 (l:=[_,_,_,_,_,_,_]) st rfl rfl qV67 rfl ?_);intro b8 w hb8 st;refine zA3 (zC4 st 0 [_,_,_,_,_,_,_] qZ67 ?_);intro w st;dsimp only [zA0,wr] at st;refine a5 ?_;obtain⟨lq,many,hb,ho,hws,hx1,hx2⟩:=st.wrGet (i:=2) rfl;refine a2 ?_;refine yfz 1 qU80 qZ4 ?_;refine vy (zD8 rfl qA4 (zZ hb)) ?_;refine a2 ?_;refine vif ?_ ?_;intro hc33;(try simp only [dn] at hc33);refine a6 ?_;refine zD4 (.inl rfl) results41 ?_;refine⟨_,rfl,?_⟩;refine⟨rfl,?_⟩;have hm:many=true:=by assumption
 subst hm;rw [qJ9 ss d j,← List.append_assoc];exact(st.wrDone (i:=2) rfl).over hb;intro hc33;(try simp only [dn] at hc33);refine a2 ?_;refine vdr Tryz.mixed [Yt 0,Yt 1,Yt 2,Yt 3,Yt 4,Yt 5,Nt 6] [.blk b8 (.cells (smL s oe ob ol ce cb cl).toArray 67 (0,0)),.blk b6 (.cells (jJ2 bw).toArray 134 (0,0))] st ?_;clear st;intro w st hS;refine pf0 hS qU67 qZ64 ?_;refine pld hS 0 qA64 ?_;refine zA2 rfl rfl rfl hS (fun w st=>gB0 (k:=m) rfl rfl underlying134 sizeOf133 hm (by omega)) ?_;refine zA2 rfl rfl rfl hS (fun w st=>zD8 rfl isAgg133 (jN0 (st.res (i:=1) rfl) (by omega) (by omega))) ?_;refine zA2 rfl rfl rfl hS (fun w st=>zS7 (vs:=[_,_,_,_,_,_,_]) st 0 rfl qA67 qZ67 rfl rfl) ?_;refine pm hS ?_;refine zD0 rfl (zJ2 [_,_] rfl rfl rfl (kP2 m (by omega) (by omega)) rfl (kG2 s m hm d hd hRs hks oe ob ol ce cb cl bw _ _ _ (hse.kept (hsame st.chg)) (hsb.kept (hsame st.chg)) (hsl.kept (hsame st.chg)) (st.wrGet (i:=2) rfl) (Nat.le_trans hn0 st.chg.size) h0 (hsg.kept' st.chg (hW.notin h0)) (by omega) (fun l hl bw v F oa cap w hr hW hn hsg hd=>ih (szo l) (by rcases hl with h|h <;> subst h <;> omega) l rfl (d+1) (by omega) (by rcases hl with h|h <;> subst h;exact hRi.2.2.2.2.2.2.2.1;exact hRi.2.2.2.2.2.2.2.2) (by rcases hl with h|h <;> subst h;exact hks.body;exact hks.els) (by have:=kO3 hRs hl;omega) bw v F oa cap w hr hW hn h0 hsg)) ?_);rintro _ w ⟨rfl,hp⟩;obtain⟨v9,st⟩:=st.wr (i:=2) rfl hp;dsimp only [zA0] at st;refine zA9 st.dr ?_;intro hS;refine zC6 (zE0 (zA6 (zB4 ?_)));refine vy (yin ((j+1:Nat):Int)) ?_;refine a2 ?_;refine zA7 (j+1,v9)  ⟨rfl,rfl,rfl,rfl,rfl,rfl,trivial⟩ (by rw [qQ7 hsj,← List.append_assoc];exact st.dr) ?_ ?_;dsimp only;omega;dsimp only;omega;intro hc27;(try simp only [dn] at hc27);refine a4 ?_;refine zD4 (.inr rfl) results41 ?_;refine⟨_,rfl,?_⟩;refine⟨rfl,?_⟩;obtain rfl:j=ss.length:=by omega
 rw [List.take_length] at st;exact st.wrDone (i:=1) rfl
end
theorem Sig.pos {w:World} (h:Sig w):0<w.heap.size:=World.block_lt_of_cell? w _ (h 0 (by omega)).1
theorem jK9 {p:Pg} {j:Nat} {t:Th} (h:p.threads[j]?=some t):(zJ6 t.body 1).length≤(pgT p).length:=by
 have h1:=kM2 p (j+1);rw [qZ0 h] at h1;unfold thT at h1;simp at h1;omega
set_option maxHeartbeats 2000000 in
theorem qK0 (p:Pg) (os ol ot:Option Addr) (cs cl ct:Nat) (w:World) (hS:DcRow w (·<w.heap.size) os p.shared) (hL:DcRow w (·<w.heap.size) ol p.locks) (hT:ThRow w (·<w.heap.size) ot p.threads) (hok:OkP p) (hsg:Sig w) (hlen:qD4 p=true→(pgT p).length≤1099511627776) :
    Ret Tryz.prog 11 [.agg (pgL p os ol ot cs cl ct).toArray] w fun v w'=>v=.tuple #[str (zY6 p).1,.int .i64 ((zY6 p).2:Int)]∧Chg [] w w':=by
 refine zB [_] func11 rfl ntmps11 rfl ?_;have st:=St.init w [];obtain⟨w0,rfl⟩:∃ w0,w0=w:=⟨_,rfl⟩
 have hn3:=hok.2.2.1;have h0:=hsg.pos;refine a2 ?_;refine zA3 (zT2 (l:=[_,_,_]) st rfl rfl rfl rfl ?_);intro b1 w hb1 st;refine a7 ?_;refine yla st 0 [_,_,_] qA26 qZ26 ?_;refine zA3 (zA1 [_] rfl rfl call38 rfl (kO8 p _ _ _ _ _ _ _ (RowC.kept hS st.sm) (RowC.kept hL st.sm) (hT.kept st.sm) hok (hsg.kept st.chg)) ?_);rintro _ w ⟨rfl,cw⟩;replace st:=st.call0 cw;refine a3 ?_;refine vif ?_ ?_;intro hc9;(try simp only [dn] at hc9);refine a8 ?_;refine zG3 st (.inl rfl) results11 (.tmp rfl) (.tmp rfl) ?_;refine⟨_,rfl,?_⟩;refine⟨?_,st.chg⟩;rw [gU4 (by assumption)];rfl;intro hc9;(try simp only [dn] at hc9);refine a4 ?_;refine vy (ybd (.agg #[_,_]) []) ?_;refine zA3 (zT2 (l:=[_,_]) st rfl rfl rfl rfl ?_);intro b11 w hb11 st;refine a5 ?_;obtain⟨bw,rfl⟩:∃ bw,bw=b11:=⟨_,rfl⟩
 have hpo:qD4 p=true:=by assumption
 replace hlen:=hlen hpo;obtain⟨q1,q2,q3⟩:=gV0 hpo;replace st:=st.wrNew (E:=5) (n0:=w0.heap.size) hb11 (Nat.le_refl _);refine a1 ?_;refine vy (zC3 rfl qU26 rfl rfl qZ23 rfl) ?_;refine yl st 1 qA23 ?_;refine zA3 (zA1 [_,_,_,_] rfl rfl call39 rfl (qQ4 p.shared true q1 hok.1 [115,104,97,114,101,100] (by simp) 0 (by omega) _ _ bw _ _ _ (RowC.kept hS st.sm) (st.wrGet (i:=0) rfl) st.chg.size) ?_);rintro _ w ⟨rfl,hp⟩;obtain⟨v9,st⟩:=st.wr (i:=0) rfl hp;dsimp only [zA0] at st;refine a5 ?_;refine yfz 1 qU26 qZ23 ?_;refine yl st 1 qA23 ?_;refine zA3 (zA1 [_,_,_,_] rfl rfl call39 rfl (qQ4 p.locks false q2 hok.2.1 [108,111,99,107] (by simp) 0 (by omega) _ _ bw _ _ _ (RowC.kept hL st.sm) (st.wrGet (i:=0) rfl) st.chg.size) ?_);rintro _ w ⟨rfl,hp⟩;obtain⟨v9,st⟩:=st.wr (i:=0) rfl hp;dsimp only [zA0] at st;refine a5 ?_;refine yfz 2 qU26 qZ24 ?_;refine yl st 1 qA24 ?_;refine vy (zB1 rfl qU24) ?_;refine a4 ?_;refine zC (w0:=w0) (M:=[]) (fun (x:Nat×Value)=>[(4,.pointer (some ⟨bw,0,none⟩)),(21,.slice ot p.threads.length ct),(22,.int .i64 (p.threads.length:Int)),(23,.int .i64 (x.1:Int))]) (fun x=>[wrR [] w0.heap.size 5 w0.heap.size 80 bw x.2 (pgH p++gW8 (p.threads.take x.1))]) (fun x _=>x.1≤p.threads.length) (fun x=>p.threads.length - x.1) (0,v9) ⟨rfl,rfl,rfl,rfl,trivial⟩ (by simpa [gW8,pgH] using (st.dr:St w0 [] [wrR [] w0.heap.size 5 w0.heap.size 80 bw v9 _] w)) (by simp) ?_;clear st;rintro ⟨j,v1⟩ w hj st;dsimp only at *;refine a6 ?_;refine vif ?_ ?_;intro hc24;(try simp only [dn] at hc24);have stK:=st;obtain⟨t,htj⟩:∃ t,p.threads[j]?=some t:=⟨_,List.getElem?_eq_getElem (by omega)⟩
 obtain⟨gb,go,rfl,hgS,hgl,hg⟩:=ThRow.at hT (by omega);obtain⟨tl,tb,cll,cbb,htl,htb,hc⟩:=hg j t htj;have hkt:=hok.2.2.2 j t htj;obtain⟨t1,t2,t3⟩:=q3 j t htj;have hnl:=zL9 t1;have htle:=jK9 htj;have st:=stK;clear stK;refine a6 ?_;refine vy (zM3 (k:=j) rfl rfl qU24 qZ69 rfl (by omega)) ?_;refine vy (zE6 (thL t tl tb cll cbb) rfl qA69 qZ69 rfl (fun i v hi=>st.chg.cell (hc i v hi) (by simp))) ?_;refine zA3 (zF8 (l:=[_,_,_,_]) st rfl rfl qV69 rfl ?_);intro b6 w hb6 st;refine zA3 (zC4 st 0 [_,_,_,_] qZ69 ?_);intro w st;dsimp only [zA0,wr] at st;refine a5 ?_;refine vy (zC3 rfl qU69 rfl rfl qZ9 rfl) ?_;refine yl st 0 qA9 ?_;refine zA3 (zY7 (l:=[[116,104,114,101,97,100,32],t.nm,[32,123]].map str) (E:=9) st [(0,_),(1,_),(2,_)] rfl rfl rfl (fun w=>by simp [Instr.buildSlice,run_underlying qU50,qZ9,qV9,Instr.fill,newRow,newObj,Sem.run,go_sem]) ?_);intro b30 w hb30 st;refine zA3 (zA1 [_,_,_] rfl rfl call40 rfl (zP6 zK6 bw _ _ 0 (by omega) [[116,104,114,101,97,100,32],t.nm,[32,123]] (by simp) (by simp;try omega) b30 _ _ (st.wrGet (i:=2) rfl) st.chg.size (fun j x hx=>zD7 (st.res (i:=0) rfl) (zP2 hx)) (fun hk=>zH3 st.nodup (i:=0) (j:=2) (by decide) rfl rfl _ (.head _) hk)) ?_);rintro _ w ⟨rfl,hp⟩;obtain⟨v9,st⟩:=st.wr (i:=2) rfl hp;dsimp only [zA0] at st;refine a5 ?_;refine yfz 1 qU69 qZ23 ?_;refine yl st 1 qA23 ?_;refine zA3 (zA1 [_,_,_,_] rfl rfl call39 rfl (qQ4 t.locals false t2 hkt.1 [108,111,99,97,108] (by simp) 1 (by omega) _ _ bw _ _ _ (RowC.kept htl st.sm) (st.wrGet (i:=2) rfl) st.chg.size) ?_);rintro _ w ⟨rfl,hp⟩;obtain⟨v9,st⟩:=st.wr (i:=2) rfl hp;dsimp only [zA0] at st;refine a5 ?_;refine yfz 2 qU69 qZ65 ?_;refine yl st 1 qA65 ?_;refine zA3 (zA1 [_,_,_] rfl rfl call41 rfl (kD8 _ t.body rfl 1 (by omega) t3 hkt.2.1 (by omega) bw _ _ _ _ _ (htb.kept st.sm) (st.wrGet (i:=2) rfl) st.chg.size h0 (hsg.kept st.chg)) ?_);rintro _ w ⟨rfl,hp⟩;obtain⟨v9,st⟩:=st.wr (i:=2) rfl hp;dsimp only [zA0] at st;refine a4 ?_;refine zA3 (zY7 (l:=[[125]].map str) (E:=9) st [(0,_)] rfl rfl rfl (fun w=>by simp [Instr.buildSlice,run_underlying qU50,qZ9,qV9,Instr.fill,newRow,newObj,Sem.run,go_sem]) ?_);intro b41 w hb41 st;refine zA3 (zA1 [_,_,_] rfl rfl call40 rfl (zP6 zK6 bw _ _ 0 (by omega) [[125]] (by simp) (by simp;try omega) b41 _ _ (st.wrGet (i:=3) rfl) st.chg.size (fun j x hx=>zD7 (st.res (i:=0) rfl) (zP2 hx)) (fun hk=>zH3 st.nodup (i:=0) (j:=3) (by decide) rfl rfl _ (.head _) hk)) ?_);rintro _ w ⟨rfl,hp⟩;obtain⟨v9,st⟩:=st.wr (i:=3) rfl hp;dsimp only [zA0] at st;refine a4 ?_;refine vy (yin ((j+1:Nat):Int)) ?_;refine a2 ?_
 refine zA7 (j+1,v9)  ⟨rfl,rfl,rfl,rfl,trivial⟩ (by rw [qZ0 htj];unfold thT;simpa [List.append_assoc,mar] using st.pick [3] rfl (by decide)) ?_ ?_;dsimp only;omega;dsimp only;omega;intro hc24;(try simp only [dn] at hc24);obtain rfl:j=p.threads.length:=by omega
 rw [List.take_length,← kR7] at st;obtain⟨l2,many2,hb2,ho2,hws2,-,-⟩:=st.wrGet (i:=0) rfl;obtain⟨oq,cq,hvq⟩:=zJ3 ho2;subst hvq;refine a10 ?_;refine yfz 1 qU80 qZ4 ?_;refine vy (zD8 rfl qA4 (zZ hb2)) ?_;refine a2 ?_;refine vif ?_ ?_;intro hc47;(try simp only [dn] at hc47);refine a8 ?_
 rotate_left
 intro hc47;(try simp only [dn] at hc47);refine a6 ?_;refine vy (zC3 rfl qU80 rfl rfl qZ78 rfl) ?_;refine vy (zD8 rfl qA78 (zD7 (l:=[_,_]) hb2 rfl)) ?_;refine vy (qY5 rfl (p:=l2) (gA ho2) rfl qU78 qU5 qU9) ?_;refine a5 ?_
 all_goals
  refine zG3 st (.inl rfl) results11 (.tmp rfl) (.tmp rfl) ?_;refine⟨_,rfl,?_⟩;refine⟨?_,st.chg⟩
  first
   | (have hm : many2 = true := by assumption
      subst hm
      rw [qQ3 hpo (WS.long hws2)];rfl)
   | (have hm : many2 = false := by assumption
      subst hm
      obtain⟨h1,h2⟩:=WS.yes hws2
      subst h1
      rw [gV8 hpo h2];rfl)
theorem gP (p:Pg) (os ol ot:Option Addr) (cs cl ct:Nat) (w:World) (hS:DcRow w (·<w.heap.size) os p.shared) (hL:DcRow w (·<w.heap.size) ol p.locks) (hT:ThRow w (·<w.heap.size) ot p.threads) (hok:OkP p) (hsg:Sig w) (hlen:qD4 p=true→(pgT p).length≤1099511627776) :
    Ret Tryz.prog 34 [.agg (pgL p os ol ot cs cl ct).toArray] w fun v w'=>v=.int .i64 ((zY6 p).2:Int)∧Chg [] w w':=by
 refine zB [_] func34 rfl ntmps34 rfl ?_;have st:=St.init w [];obtain⟨w0,rfl⟩:∃ w0,w0=w:=⟨_,rfl⟩
 refine a2 ?_;refine zA3 (zT2 (l:=[_,_,_]) st rfl rfl rfl rfl ?_);intro b1 w hb1 st;refine a5 ?_;refine yla st 0 [_,_,_] qA26 qZ26 ?_;refine zA3 (zA1 [_] rfl rfl call11 rfl (qK0 p _ _ _ _ _ _ _ (RowC.mono (RowC.kept hS st.sm) (fun b hb=>Nat.lt_of_lt_of_le hb st.chg.size)) (RowC.mono (RowC.kept hL st.sm) (fun b hb=>Nat.lt_of_lt_of_le hb st.chg.size)) ((hT.kept st.sm).mono (fun b hb=>Nat.lt_of_lt_of_le hb st.chg.size)) hok (hsg.kept st.chg) hlen) ?_);rintro _ w ⟨rfl,cw⟩;replace st:=st.call0 cw;refine a14 ?_;refine vr1 st results34 ?_;exact⟨rfl,st.chg⟩
end Go.Proofs.YtnmhlpnapgojjaaGreatDoor
/- When trees are the same: no program in sight. -/
namespace LexS
open Sx
def zJ9 {α β:Type} (f:α→β→Bool):List α→List β→Bool
  | [],[]=>true
  | x::r,y::s=>f x y && zJ9 f r s
  | _,_=>false
theorem zV2 {α β:Type} {f:α→β→Bool}:∀ {a:List α} {b:List β},a.length≠b.length→zJ9 f a b=false
  | [],[],h=>absurd rfl h
  | x::r,y::s,h=>by simp only [zJ9,zV2 (f:=f) (a:=r) (b:=s) (by simpa using h),Bool.and_false]
  | [],_::_,_=>rfl
  | _::_,[],_=>rfl
theorem zL {α β:Type} {f:α→β→Bool}:∀ {a:List α} {b:List β} {j:Nat} {x:α} {y:β},a[j]?=some x→b[j]?=some y→f x y=false→zJ9 f a b=false
  | [],_,j,x,y,h,_,_=>by simp at h
  | _::_,[],j,x,y,_,h,_=>by simp at h
  | u::r,v::s,0,x,y,h1,h2,h=>by simp at h1 h2;subst h1 h2;simp [zJ9,h]
  | u::r,v::s,j+1,x,y,h1,h2,h=>by simp only [zJ9,zL (f:=f) (a:=r) (b:=s) (by simpa using h1) (by simpa using h2) h,Bool.and_false]
theorem zT0 {α β:Type} {f:α→β→Bool}:∀ {a:List α} {b:List β},a.length=b.length→(∀ (j:Nat) x y,j<a.length→a[j]?=some x→b[j]?=some y→f x y=true)→zJ9 f a b=true
  | [],[],_,_=>rfl
  | u::r,v::s,hl,h=>by
    simp only [zJ9,Bool.and_eq_true]
    exact⟨h 0 u v (by simp) rfl rfl,zT0 (by simpa using hl) fun j x y hj h1 h2=>h (j+1) x y (by simp;omega) (by simpa using h1) (by simpa using h2)⟩
  | [],_::_,hl,_=>by simp at hl
  | _::_,[],hl,_=>by simp at hl
theorem zI0 {α:Type} {f:α→α→Bool} {a:List α} (h:∀ x∈a,f x x=true):zJ9 f a a=true:=
  zT0 rfl fun j x y hj h1 h2=>by rw [h1] at h2;cases h2;exact h x (List.mem_of_getElem? h1)
mutual
def qG:Ex→Ex→Bool
  | .mk k op wd nm kids a,y=>decide (k=y.k∧op=y.op∧wd=y.wd∧nm=y.nm) && gK0 kids y.kids
termination_by structural e=>e
def gK0:List Ex→List Ex→Bool
  | [],l=>l.isEmpty
  | x::r,l=>match l with | []=>false|y::s=>qG x y && gK0 r s
termination_by structural l=>l
end
mutual
def plE:Ex→Ex→Bool
  | .mk k op wd nm kids a,y=>decide (a=y.a) && jJ6 kids y.kids
termination_by structural e=>e
def jJ6:List Ex→List Ex→Bool
  | [],l=>l.isEmpty
  | x::r,l=>match l with | []=>false|y::s=>plE x y && jJ6 r s
termination_by structural l=>l
end
theorem gJ5:∀ (a b:List Ex),gK0 a b=zJ9 qG a b
  | [],[]=>rfl
  | [],_::_=>rfl
  | _::_,[]=>by simp [gK0,zJ9]
  | x::r,y::s=>by simp only [gK0,zJ9,gJ5 r s]
theorem kG1:∀ (a b:List Ex),jJ6 a b=zJ9 plE a b
  | [],[]=>rfl
  | [],_::_=>rfl
  | _::_,[]=>by simp [jJ6,zJ9]
  | x::r,y::s=>by simp only [jJ6,zJ9,kG1 r s]
theorem qC5 (e y:Ex):qG e y=(decide (e.k=y.k∧e.op=y.op∧e.wd=y.wd∧e.nm=y.nm) && zJ9 qG e.kids y.kids):=by
  cases e;rw [qG,gJ5];rfl
theorem gX0 (e y:Ex):plE e y=(decide (e.a=y.a) && zJ9 plE e.kids y.kids):=by
  cases e;rw [plE,kG1];rfl
mutual
def qE4:Sm→Sm→Bool
  | .mk k nm other e body els a,y=>decide (k=y.k∧nm=y.nm∧other=y.other) && zJ9 qG e y.e && gC3 body y.body && gC3 els y.els
termination_by structural e=>e
def gC3:List Sm→List Sm→Bool
  | [],l=>l.isEmpty
  | x::r,l=>match l with | []=>false|y::s=>qE4 x y && gC3 r s
termination_by structural l=>l
end
mutual
def plS:Sm→Sm→Bool
  | .mk k nm other e body els a,y=>decide (a=y.a) && zJ9 plE e y.e && jI2 body y.body && jI2 els y.els
termination_by structural e=>e
def jI2:List Sm→List Sm→Bool
  | [],l=>l.isEmpty
  | x::r,l=>match l with | []=>false|y::s=>plS x y && jI2 r s
termination_by structural l=>l
end
theorem qU7:∀ (a b:List Sm),gC3 a b=zJ9 qE4 a b
  | [],[]=>rfl
  | [],_::_=>rfl
  | _::_,[]=>by simp [gC3,zJ9]
  | x::r,y::s=>by simp only [gC3,zJ9,qU7 r s]
theorem gP8:∀ (a b:List Sm),jI2 a b=zJ9 plS a b
  | [],[]=>rfl
  | [],_::_=>rfl
  | _::_,[]=>by simp [jI2,zJ9]
  | x::r,y::s=>by simp only [jI2,zJ9,gP8 r s]
theorem zL6 (s y:Sm):qE4 s y=(decide (s.k=y.k∧s.nm=y.nm∧s.other=y.other) && zJ9 qG s.e y.e && zJ9 qE4 s.body y.body && zJ9 qE4 s.els y.els):=by
  cases s;rw [qE4,qU7,qU7];rfl
theorem gD1 (s y:Sm):plS s y=(decide (s.a=y.a) && zJ9 plE s.e y.e && zJ9 plS s.body y.body && zJ9 plS s.els y.els):=by
  cases s;rw [plS,gP8,gP8];rfl
def zV5 (d y:Dc):Bool:=decide (d.nm=y.nm∧d.wd=y.wd)
def eqD (d y:Dc):Bool:=decide (d.nm=y.nm∧d.wd=y.wd∧d.a=y.a)
def qG8 (t y:Th):Bool:=decide (t.nm=y.nm) && zJ9 zV5 t.locals y.locals && zJ9 qE4 t.body y.body
def exT (t y:Th):Bool:=decide (t.a=y.a) && zJ9 eqD t.locals y.locals && zJ9 plS t.body y.body
def zW8 (p q:Pg):Bool:=zJ9 zV5 p.shared q.shared && zJ9 zV5 p.locks q.locks && zJ9 qG8 p.threads q.threads
def qJ3 (p q:Pg):Bool:=zW8 p q && zJ9 eqD p.shared q.shared && zJ9 eqD p.locks q.locks && zJ9 exT p.threads q.threads
theorem qC9 {e x:Ex} (h:x∈e.kids):SizeOf.sizeOf x<SizeOf.sizeOf e:=by
  cases e with
  | mk k op wd nm kids a=>
    have:=List.sizeOf_lt_of_mem h
    simp only [Ex.kids] at this
    simp only [Ex.mk.sizeOf_spec];omega
theorem qF9 {s x:Sm} (h:x∈s.body∨x∈s.els):SizeOf.sizeOf x<SizeOf.sizeOf s:=by
  cases s with
  | mk k nm other e body els a=>
    simp only [Sm.body,Sm.els] at h
    simp only [Sm.mk.sizeOf_spec]
    rcases h with h|h <;> (have:=List.sizeOf_lt_of_mem h;omega)
theorem kE3:∀ (n:Nat) (e:Ex),SizeOf.sizeOf e=n→qG e e=true:=by
  intro n
  refine Nat.strongRecOn n fun n ih e hn=>?_
  subst hn
  rw [qC5]
  simp only [and_self,decide_true,Bool.true_and]
  exact zI0 fun x hx=>ih _ (qC9 hx) x rfl
theorem kW8:∀ (n:Nat) (e:Ex),SizeOf.sizeOf e=n→plE e e=true:=by
  intro n
  refine Nat.strongRecOn n fun n ih e hn=>?_
  subst hn
  rw [gX0]
  simp only [decide_true,Bool.true_and]
  exact zI0 fun x hx=>ih _ (qC9 hx) x rfl
theorem gZ6:∀ (n:Nat) (s:Sm),SizeOf.sizeOf s=n→qE4 s s=true:=by
  intro n
  refine Nat.strongRecOn n fun n ih s hn=>?_
  subst hn
  rw [zL6]
  simp only [and_self,decide_true,Bool.true_and,Bool.and_eq_true]
  exact⟨⟨zI0 fun x hx=>kE3 _ x rfl,zI0 fun x hx=>ih _ (qF9 (.inl hx)) x rfl⟩,zI0 fun x hx=>ih _ (qF9 (.inr hx)) x rfl⟩
theorem kW7:∀ (n:Nat) (s:Sm),SizeOf.sizeOf s=n→plS s s=true:=by
  intro n
  refine Nat.strongRecOn n fun n ih s hn=>?_
  subst hn
  rw [gD1]
  simp only [decide_true,Bool.true_and,Bool.and_eq_true]
  exact⟨⟨zI0 fun x hx=>kW8 _ x rfl,zI0 fun x hx=>ih _ (qF9 (.inl hx)) x rfl⟩,zI0 fun x hx=>ih _ (qF9 (.inr hx)) x rfl⟩
theorem kA1 (p:Pg):zW8 p p=true:=by
  unfold zW8
  simp only [Bool.and_eq_true]
  refine⟨⟨zI0 fun x _=>by simp [zV5],zI0 fun x _=>by simp [zV5]⟩,zI0 fun t _=>?_⟩
  unfold qG8
  simp only [decide_true,Bool.true_and,Bool.and_eq_true]
  exact⟨zI0 fun x _=>by simp [zV5],zI0 fun x _=>gZ6 _ x rfl⟩
theorem qY (p:Pg):qJ3 p p=true:=by
  unfold qJ3
  simp only [kA1,Bool.true_and,Bool.and_eq_true]
  refine⟨⟨zI0 fun x _=>by simp [eqD],zI0 fun x _=>by simp [eqD]⟩,zI0 fun t _=>?_⟩
  unfold exT
  simp only [decide_true,Bool.true_and,Bool.and_eq_true]
  exact⟨zI0 fun x _=>by simp [eqD],zI0 fun x _=>kW7 _ x rfl⟩
end LexS
namespace Go.Proofs.YtnmhlpnapgojjaaGreatDoor
open Go.RowKit Sx LexS _root_.Go.Proofs.Tryz
theorem jA4:(Tryz.prog.fieldsOf 63).toList.map (fun f=>(f.name,f.type,f.offset))=[("Name",9,0),("Word",2,1),("At",3,2)]:=by kernel_rfl
theorem kA2 (p q:Dc) (w:World):(Op.eqFields 9999 (dcL p).toArray (dcL q).toArray (Tryz.prog.fieldsOf 63).toList).run Tryz.prog w=.ok (eqD p q) w:=by
 have h:=jA4
 match hf:(Tryz.prog.fieldsOf 63).toList with
 | [a,b,c]=>
  rw [hf] at h
  simp only [List.map_cons,List.map_nil,List.cons.injEq,Prod.mk.injEq,and_true] at h
  obtain⟨⟨a1,a2,a3⟩,⟨b1,b2,b3⟩,c1,c2,c3⟩:=h
  have e1:∀ (x:Dc) w,(part 9 (dcL x).toArray 0).run Tryz.prog w=.ok (str x.nm) w:=fun x w=>qM qA9 rfl
  have e2:∀ (x:Dc) w,(part 2 (dcL x).toArray 1).run Tryz.prog w=.ok (.int .i64 x.wd) w:=fun x w=>qM qA2 rfl
  have e3:∀ (x:Dc) w,(part 3 (dcL x).toArray 2).run Tryz.prog w=.ok (.int .i64 x.a) w:=fun x w=>qM qA3 rfl
  have r1:=run_equalIn_string (P:=Tryz.prog) w 9998 9 ⟨p.nm.toArray⟩ ⟨q.nm.toArray⟩ qU9
  have r2:=run_equalIn_int (P:=Tryz.prog) w 9998 2 .i64 .i64 p.wd q.wd qU2
  have r3:=run_equalIn_int (P:=Tryz.prog) w 9998 3 .i64 .i64 p.a q.a qU3
  simp only [qP] at r1
  simp only [Op.eqFields,a1,a2,a3,b1,b2,b3,c1,c2,c3,Sem.run_bind,Sem.run_ite,e1,e2,e3,Result.andThen_ok]
  simp only [ne_eq,String.reduceEq,not_false_eq_true,if_true,Sem.run_bind,Sem.run_ite,e1,e2,e3,r1,r2,r3,Result.andThen_ok,Sem.run_pure]
  unfold eqD
  by_cases h1:p.nm=q.nm
  ·by_cases h2:p.wd=q.wd
   ·by_cases h3:p.a=q.a <;> simp [h1,h2,h3]
   ·simp [h1,h2]
  ·simp [h1]
 | []=>rw [hf] at h;simp at h
 | [_]=>rw [hf] at h;simp at h
 | [_,_]=>rw [hf] at h;simp at h
 | _::_::_::_::_=>rw [hf] at h;simp at h
section
variable {n:Fr} {kn:Kn} {w:World} {d ty:Nat} {pos:String} {aft:Array Edge} {g:Option (Nat×Bool)}
theorem y_neD {U:Nat} {x y:Operand} {p q:Dc} (hx:evO kn x=some (.agg (dcL p).toArray)) (hy:evO kn y=some (.agg (dcL q).toArray)):Y Tryz.prog n kn w ⟨some d,.binOp .neq 63 x y U,ty,pos,aft,g⟩ (.bool (!eqD p q)):=
 gM6 hx hy (by
   have h1:=run_eqGuard_agg (P:=Tryz.prog) w .neq 63 x y (dcL p).toArray (dcL q).toArray (by kernel_rfl)
   have h2:=run_neq_struct (P:=Tryz.prog) w 63 (dcL p).toArray (dcL q).toArray
   rw [run_equalIn_agg w 9999 63 _ _ (by kernel_rfl) (by kernel_rfl),kA2] at h2
   simp only [Sem.run_bind,h1,Result.andThen_ok]
   have h3:(binOp .neq 63 (.agg (dcL p).toArray) (.agg (dcL q).toArray)).run Tryz.prog w=.ok (.bool (!eqD p q)) w:=by rw [h2];rfl
   exact h3)
end
end Go.Proofs.YtnmhlpnapgojjaaGreatDoor
