/- A part of the proof: contracts of functions and plain laws; each theorem says its own conditions. -/
import Derived.Test.YtnmhlpnapgojjaaGreatDoorPrettyLaidAl
import Derived.Test.YtnmhlpnapgojjaaGreatDoorPrettyLaidK3
import Derived.Test.YtnmhlpnapgojjaaGreatDoorPrettyLaidK2
import Derived.Test.YtnmhlpnapgojjaaGreatDoorPrettyLaidK14
import Derived.Test.YtnmhlpnapgojjaaGreatDoorPrettyLaidK1
import Derived.Test.YtnmhlpnapgojjaaGreatDoorPrettyLaidK12
import Derived.Test.YtnmhlpnapgojjaaGreatDoorPrettyLaidK0
import Derived.Test.YtnmhlpnapgojjaaGreatDoorPrettyLaidK10
import Derived.Test.YtnmhlpnapgojjaaGreatDoorPrettyLaidK11
set_option linter.unusedVariables false
set_option linter.unusedSimpArgs false
namespace Go.Proofs.YtnmhlpnapgojjaaGreatDoor
open Go.RowKit Sx LexS _root_.Go.Proofs.Tryz
theorem gG9 (c:UInt8) (w:World):Ret Tryz.prog 244 [str signs1,str [c]] w fun v w'=>v=.bool (signs1.contains c)∧w'=w:=
 (Tryz.strings_Contains_one ⟨signs1.toArray⟩ c w).mono fun e w' ⟨he,hw⟩=>⟨_,he,by rw [gS5],hw⟩
theorem qR1 {s:List UInt8} {i:Nat} (h:i<s.length) (hc:zE9 (s.getD i 0)=false) (hd:zB5 (s.getD i 0)=false):zK7 (s.drop i) i=
    if zG1 ((s.drop i).take 2) then .tok ⟨4,(s.drop i).take 2,0,i⟩ else if zK1 ((s.drop i).take 1) then .tok ⟨4,(s.drop i).take 1,0,i⟩ else .bad 1 i:=by
 rw [zG8 h];simp only [zK7,hc,hd,Bool.false_eq_true,if_false,List.take_succ_cons,List.take_zero];rfl
theorem zY1 {l:List UInt8} (h:zG1 l=true):l.length=2:=by
 simp only [zG1,decide_eq_true_eq] at h;rcases h with h|h|h|h|h|h <;> simp [h]
theorem qD0 {l:List UInt8} (h:zK1 l=true):l.length=1:=by
 match l,h with
 | [],h=>simp [zK1] at h
 | [_],_=>rfl
 | _::_::_,h=>simp [zK1] at h
set_option maxHeartbeats 1000000 in
theorem kU6 (l:List UInt8) (w:World):Ret Tryz.prog 228 [str l] w fun v w'=>v=.bool (zM1 l)∧w'=w:=by
 refine zB [_] func228 rfl ntmps228 rfl ?_;have st:=St.init w [];refine a16 ?_;refine a3 ?_;refine vif ?_ ?_;intro hc4;(try simp only [dn] at hc4);refine a11 ?_
 rotate_left
 focus
  intro hc4;(try simp only [dn] at hc4);refine a6 ?_;refine vif ?_ ?_;intro hc4;(try simp only [dn] at hc4);refine a11 ?_
  rotate_left
  focus
   intro hc4;(try simp only [dn] at hc4);refine a6 ?_;refine vif ?_ ?_;intro hc4;(try simp only [dn] at hc4);refine a11 ?_
   rotate_left
   focus
    intro hc4;(try simp only [dn] at hc4);refine a6 ?_;refine vif ?_ ?_;intro hc4;(try simp only [dn] at hc4);refine a11 ?_
    rotate_left
    focus
     intro hc4;(try simp only [dn] at hc4);refine a6 ?_;refine vif ?_ ?_;intro hc4;(try simp only [dn] at hc4);refine a11 ?_
     rotate_left
     focus
      intro hc4;(try simp only [dn] at hc4);refine a5 ?_;refine vif ?_ ?_;intro hc4;(try simp only [dn] at hc4);refine a8 ?_
      rotate_left
      focus
       intro hc4;(try simp only [dn] at hc4);refine a6 ?_;refine vy (zH8 rfl qU9) ?_;refine a1 ?_;refine vmb ?_ ?_;intro hg14;(try simp only [dn] at hg14)
       obtain⟨c,rfl⟩:∃ c,l=[c]:=by
        match l,hg14 with
        | [c],_=>exact⟨c,rfl⟩
        | [],h=>simp at h
        | _::_::_,h=>simp at h;omega
       refine a1 ?_;refine zA3 (zA1 [_,_] rfl rfl call244 rfl (gG9 _ _) ?_);rintro _ _ ⟨rfl,rfl⟩;refine a1 ?_
       rotate_left
       intro hg14;(try simp only [dn] at hg14);refine a3 ?_
       all_goals
        refine a4 ?_
 all_goals
  refine vr1 st results228 ?_;refine⟨?_,rfl⟩;rw [Value.bool.injEq]
  first
  | (symm;simp only [zM1,zG1,Bool.or_eq_true,decide_eq_true_eq];simp only [*,true_or,or_true];done)
  | (have h2 : zG1 [c] = false := by simp [zG1]
     simp [zM1,h2,zK1];done)
  | (have h2 : zG1 l = false := by simp only [zG1, decide_eq_false_iff_not]; simp only [*, or_self, not_false_eq_true]
     have h1:zK1 l=false:=by
       cases h:zK1 l
       · rfl
       · have:=qD0 h;omega
     simp [zM1,h1,h2])
theorem jC2 (b:Nat) (s:List UInt8) (i:Nat) (fa fr:Int) (w:World) (hb:w.heap[b]?=some (scn s i fa fr)) (hi:i<s.length) (hs:s.length≤3000000) (hc:zE9 (s.getD i 0)=false) (hd:zB5 (s.getD i 0)=false) :
    Ret Tryz.prog 198 [.pointer (some ⟨b,0,none⟩)] w fun v w'=>Chg [b] w w'∧gX b s i fa fr (zK7 (s.drop i) i) v w':=by
 refine zB [_] func198 rfl ntmps198 rfl ?_;have st:=St.init w [b];replace st:=St.of1 [b] hb;refine a2 ?_;refine zA3 (zF8 (l:=[_,_,_,_]) st rfl rfl qV118 rfl ?_);intro b2 w hb2 st;refine a9 ?_;refine zC (w0:=_) (M:=_) (fun (m:Nat)=>[(0,.pointer (some ⟨b,0,none⟩)),(2,.pointer (some ⟨b2,0,none⟩)),(3,.int .i64 (m:Int))]) (fun (_:Nat)=>[.blk b2 (.cells zeroL.toArray 118 (0,0)),.blk b (scn s i fa fr)]) (fun m _=>m≤2∧(m<2→zG1 ((s.drop i).take 2)=false)∧(m<1→zK1 ((s.drop i).take 1)=false)) (fun m=>m) 2 ⟨rfl,rfl,rfl,trivial⟩ st ⟨by omega,by omega,by omega⟩ ?_;rintro m w ⟨hm,h2,h1⟩ st;refine a7 ?_;refine vif ?_ ?_;intro hc5;(try simp only [dn] at hc5);refine a5 ?_;refine qJ5 Tryz.mixed [Yt 0,Yt 1,Yt 2,Yt 3,Yt 4,Yt 5,Yt 6,Yt 7,Yt 8,Yt 9,Yt 10,Yt 11,Yt 12,Yt 13,Yt 14,Yt 15,Yt 16,Yt 17,Yt 18,Yt 19,Yt 20,Yt 21,Yt 22,Yt 23,Yt 24,Yt 25,Yt 26,Yt 27,Nt 28,Yt 29] st ?_;clear st;intro w st hS;refine pm hS ?_;refine pnk hS ?_;refine pfz hS 1 qU178 qZ3 ?_;refine pld hS 1 qA3 ?_;refine pm hS ?_;refine zA2 rfl rfl rfl hS (fun w st=>zK2 rfl rfl rfl (by omega) (by omega)) ?_;refine pm hS ?_;refine pnk hS ?_;refine pf0 hS qU178 qZ9 ?_;refine pld hS 1 qA9 ?_;refine zA2 rfl rfl rfl hS (fun w st=>zH8 rfl qU9) ?_;refine zA2 rfl rfl rfl hS (fun w st=>zT9 rfl rfl) ?_;refine zL4 rfl rfl rfl hS rfl ?_ ?_;intro hg20;(try simp only [dn] at hg20);refine pm hS ?_;refine pnk hS ?_;refine pf0 hS qU178 qZ9 ?_;refine pld hS 1 qA9 ?_;refine pm hS ?_;refine pnk hS ?_;refine pfz hS 1 qU178 qZ3 ?_;refine pld hS 1 qA3 ?_;refine pm hS ?_;refine pnk hS ?_;refine pfz hS 1 qU178 qZ3 ?_;refine pld hS 1 qA3 ?_;refine pm hS ?_;refine zA2 rfl rfl rfl hS (fun w st=>zK2 rfl rfl rfl (by omega) (by omega)) ?_;refine zA2 rfl rfl rfl hS (fun w st=>zT6 (i:=_) (j:=(i+m)) rfl rfl rfl qU9 rfl rfl (by omega) (by omega)) ?_;refine zD0 rfl (zA1 [_] rfl rfl call228 rfl (kU6 _ _) ?_);rintro _ _ ⟨rfl,rfl⟩;refine zA9 (by exact st) ?_;intro hS;refine zA2 rfl rfl rfl hS (fun w st=>zJ0 rfl rfl) ?_;refine zC6 (zA6 ?_);refine vif ?_ ?_;intro hc37;(try simp only [dn] at hc37);refine a4 ?_;refine yfz 1 qU178 qZ3 ?_;refine yl st 1 qA3 ?_;refine a1 ?_;refine vy (zK2 rfl rfl rfl (by omega) (by omega)) ?_;refine a1 ?_;refine yfz 1 qU178 qZ3 ?_;refine zA3 (est st 1 qZ3 ?_);intro w st;dsimp only [zA0,wr] at st;refine a3 ?_;refine vdr Tryz.mixed [Yt 0,Yt 1,Yt 2,Yt 3,Yt 4,Yt 5,Yt 6,Yt 7,Yt 8,Yt 9,Yt 10,Yt 11,Yt 12,Yt 13,Yt 14,Yt 15,Yt 16,Yt 17,Yt 18,Yt 19,Yt 20,Yt 21,Nt 22] [.blk b (scn s ((i:Int)+m) fa fr)] st ?_;clear st;intro w st hS;refine pm hS ?_;refine pnk hS ?_;refine pf0 hS qU178 qZ9 ?_;refine pld hS 0 qA9 ?_;refine pm hS ?_;refine pnk hS ?_
 refine pfz hS 1 qU178 qZ3 ?_;refine pld hS 0 qA3 ?_;refine pm hS ?_;refine zA2 rfl rfl rfl hS (fun w st=>qF4 rfl rfl (by omega:_=(i:Int)) (by omega) (by omega)) ?_;refine pm hS ?_;refine pnk hS ?_;refine pfz hS 1 qU178 qZ3 ?_;refine pld hS 0 qA3 ?_;refine zA2 rfl rfl rfl hS (fun w st=>zT6 (i:=i) (j:=(i+m)) rfl rfl rfl qU9 rfl rfl (by omega) (by omega)) ?_;refine pm hS ?_;refine pnk hS ?_;refine pfz hS 1 qU178 qZ3 ?_;refine pld hS 0 qA3 ?_;refine pm hS ?_;refine zA2 rfl rfl rfl hS (fun w st=>qF4 rfl rfl (by omega:_=(i:Int)) (by omega) (by omega)) ?_;refine zA2 rfl rfl rfl hS (fun w st=>ybd (.agg #[_,_,_,_]) [(0,_),(1,_),(3,_)]) ?_;refine zD0 rfl (zC4 st 0 [_,_,_,_] qZ118 ?_);intro w st;dsimp only [zA0,wr] at st;refine zA9 st.dr ?_;intro hS;refine zC6 (zA6 (zA8 (zA4 (zA (zA (zA4 (zA ?_)))))));refine zB7 st (.inl rfl) results198 (by exact .cell 0 rfl rfl qA118 qZ118) ?_;refine⟨_,rfl,?_⟩;refine⟨st.chg,?_⟩;rw [qR1 hi hc hd];rw [show i+m - i=m by omega] at hc37;have hr:=st.res (i:=1) rfl;rcases (show m=2∨m=1 by omega) with rfl|rfl
 have h2':zG1 ((s.drop i).take 2)=true:=by
  simp only [zM1,Bool.or_eq_true] at hc37
  rcases hc37 with h|h
  ·exact h
  ·have:=qD0 h;simp at this;omega
 rw [if_pos h2'];exact⟨by rfl,by dsimp only;rw [zY1 h2'];exact hr⟩
 have h1':zK1 ((s.drop i).take 1)=true:=by
  simp only [zM1,Bool.or_eq_true] at hc37
  rcases hc37 with h|h
  ·have:=zY1 h;simp at this;omega
  ·exact h
 rw [if_neg (by rw [h2 (by omega)];simp),if_pos h1'];exact⟨by rfl,by dsimp only;rw [qD0 h1'];exact hr⟩;intro hc37;(try simp only [dn] at hc37);refine a5 ?_;refine vy (qF4 rfl rfl (by omega:_=((m - 1:Nat):Int)) (by omega) (by omega)) ?_;refine a2 ?_;refine zA7 (m - 1)  ⟨rfl,rfl,rfl,trivial⟩ st ?_ ?_
 first
 | (exact⟨by omega,fun _=>by
     rcases (show m=2∨m=1 by omega) with rfl|rfl
     · simp only [zM1,Bool.or_eq_false_iff,show i+2 - i=2 by omega] at hc37;exact hc37.1
     · exact h2 (by omega),fun hlt=>by
     obtain rfl:m=1:=by omega
     simp only [zM1,Bool.or_eq_false_iff,show i+1 - i=1 by omega] at hc37;exact hc37.2⟩)
 omega;intro hg20;(try simp only [dn] at hg20);(iterate 15 refine zF5 rfl rfl rfl hS ?_);refine zD0 rfl (zO6 rfl rfl (zA9 hS (fun hS=>?_)));refine zA2 rfl rfl rfl hS (fun w st=>zN rfl rfl) ?_;refine zC6 (zA6 ?_);refine a6 ?_;refine vy (qF4 rfl rfl (by omega:_=((m - 1:Nat):Int)) (by omega) (by omega)) ?_;refine a2 ?_;refine zA7 (m - 1)  ⟨rfl,rfl,rfl,trivial⟩ st ?_ ?_
 first
 | (exact⟨by omega,fun _=>by
     rcases (show m=2∨m=1 by omega) with rfl|rfl
     · cases h:zG1 ((s.drop i).take 2)
       · rfl
       · have hl:=zY1 h;simp at hl;omega
     · exact h2 (by omega),fun hlt=>by
     obtain rfl:m=1:=by omega
     omega⟩)
 omega;intro hc5;(try simp only [dn] at hc5);refine a10 ?_;refine yfz 1 qU178 qZ3 ?_;refine yl st 1 qA3 ?_;refine zA3 (zA1 [_,_,_] rfl rfl call229 rfl (zN2 b s _ _ _ _ _ _ (st.res (i:=1) rfl)) ?_);rintro _ w ⟨rfl,cw,hw⟩;replace st:=st.turn (i:=1) (r':=.blk b _) rfl rfl rfl cw (.inl (by simp)) hw;dsimp only [zA0] at st;refine zA3 (zC4 st 0 [_,_,_,_] qZ118 ?_);intro w st;dsimp only [zA0,wr] at st;refine a3 ?_;refine zB7 st (.inl rfl) results198 (by exact .cell 0 rfl rfl qA118 qZ118) ?_;refine⟨_,rfl,?_⟩;refine⟨st.chg,?_⟩;rw [qR1 hi hc hd,if_neg (by rw [h2 (by omega)];simp),if_neg (by rw [h1 (by omega)];simp)];exact⟨rfl,_,st.res (i:=1) rfl⟩
theorem qX6 {c:UInt8} (h:zB5 c=true):48≤c.toNat∧c.toNat≤57:=by simpa [zB5] using h
theorem qY9 {s:List UInt8} {i:Nat} (h:i<s.length) (hc:zE9 (s.getD i 0)=false) (hd:zB5 (s.getD i 0)=true):zK7 (s.drop i) i=
    if (1<((s.drop i).takeWhile zB5).length∧s.getD i 0=48)∨9223372036854775807<zG6 ((s.drop i).takeWhile zB5) then .bad 3 i
  else if i+((s.drop i).takeWhile zB5).length<s.length∧zE9 (s.getD (i+((s.drop i).takeWhile zB5).length) 0)=true then .bad 4 (i+((s.drop i).takeWhile zB5).length)
  else .tok ⟨3,(s.drop i).takeWhile zB5,zG6 ((s.drop i).takeWhile zB5),i⟩:=by
 have e:zK7 (s.drop i) i=if (1<((s.drop i).takeWhile zB5).length∧s.getD i 0=48)∨9223372036854775807<zG6 ((s.drop i).takeWhile zB5) then .bad 3 i
     else match (s.drop i).drop ((s.drop i).takeWhile zB5).length with
    | d::_=>if zE9 d then .bad 4 (i+((s.drop i).takeWhile zB5).length) else .tok ⟨3,(s.drop i).takeWhile zB5,zG6 ((s.drop i).takeWhile zB5),i⟩
    | []=>.tok ⟨3,(s.drop i).takeWhile zB5,zG6 ((s.drop i).takeWhile zB5),i⟩:=by
  rw [zG8 h];simp only [zK7,hc,hd,Bool.false_eq_true,if_false,if_true];rfl
 rw [e]
 generalize (s.drop i).takeWhile zB5=T
 split;rfl;rw [List.drop_drop]
 by_cases hl:i+T.length<s.length
 rw [zG8 hl];simp only [hl,true_and];rw [List.drop_eq_nil_of_le (by omega),if_neg (by omega)]
theorem gR5 {c:UInt8} (h:(c.toNat:Int)=48):c=48:=by
 apply UInt8.toNat_inj.1;simp;omega
theorem gY4 {s:List UInt8} {i j:Nat} (hij:i≤j) (hj:j<s.length):zG6 ((s.drop i).take (j+1 - i))=10*zG6 ((s.drop i).take (j - i))+((s.getD j 0).toNat - 48):=by
 rw [← qC2,show j+1 - i=(j - i)+1 from by omega,List.take_succ_eq_append_getElem (by simp;omega)];simp [List.getD,hj,show i+(j - i)=j from by omega]
set_option maxHeartbeats 1000000 in
theorem kM6 (b:Nat) (s:List UInt8) (i:Nat) (fa fr:Int) (w:World) (hb:w.heap[b]?=some (scn s i fa fr)) (hi:i<s.length) (hs:s.length≤3000000) (hc:zE9 (s.getD i 0)=false) (hd:zB5 (s.getD i 0)=true) :
    Ret Tryz.prog 200 [.pointer (some ⟨b,0,none⟩)] w fun v w'=>Chg [b] w w'∧gX b s i fa fr (zK7 (s.drop i) i) v w':=by
 refine zB [_] func200 rfl ntmps200 rfl ?_;have st:=St.init w [b];replace st:=St.of1 [b] hb;refine a2 ?_;refine zA3 (zF8 (l:=[_,_,_,_]) st rfl rfl qV118 rfl ?_);intro b2 w hb2 st;refine a6 ?_;refine yfz 1 qU178 qZ3 ?_;refine yl st 1 qA3 ?_;refine a15 ?_;refine zC (w0:=_) (M:=_) (fun (x:Nat×Nat×Bool)=>[(0,.pointer (some ⟨b,0,none⟩)),(2,.pointer (some ⟨b2,0,none⟩)),(3,.int .i64 (i:Int)),(4,.int .u64 (x.2.1:Int)),(5,.bool x.2.2)]) (fun x=>[.blk b2 (.cells zeroL.toArray 118 (0,0)),.blk b (scn s x.1 fa fr)]) (fun x _=>i≤x.1∧x.1≤s.length∧(s.drop i).takeWhile zB5=(s.drop i).take (x.1 - i)++(s.drop x.1).takeWhile zB5∧x.2.1<18446744073709551616∧x.2.2=decide (9223372036854775807<zG6 ((s.drop i).take (x.1 - i)))∧(x.2.2=false→x.2.1=zG6 ((s.drop i).take (x.1 - i)))) (fun x=>s.length - x.1) (i,0,false) ⟨rfl,rfl,rfl,rfl,rfl,trivial⟩ st ⟨by simp,by simp;omega,by simp,by simp,by simp [zG6],by simp [zG6]⟩ ?_;rintro ⟨j,n,gr⟩ w ⟨hij,hj,he,hn64,hgr,hn⟩ st;dsimp only at *;refine a2 ?_;refine qJ5 Tryz.mixed [Yt 0,Yt 1,Yt 2,Yt 3,Yt 4,Yt 5,Yt 6,Yt 7,Yt 8,Yt 9,Yt 10,Yt 11,Yt 12,Yt 13,Yt 14,Yt 15,Yt 16,Yt 17,Yt 18,Yt 19,Nt 20,Yt 21] st ?_;clear st;intro w st hS;refine pm hS ?_;refine pnk hS ?_;refine pfz hS 1 qU178 qZ3 ?_;refine pld hS 1 qA3 ?_;refine pm hS ?_;refine pnk hS ?_;refine pf0 hS qU178 qZ9 ?_;refine pld hS 1 qA9 ?_;refine zA2 rfl rfl rfl hS (fun w st=>zH8 rfl qU9) ?_;refine zA2 rfl rfl rfl hS (fun w st=>zM5 rfl rfl) ?_;refine zL4 rfl rfl rfl hS rfl ?_ ?_
 ·intro hg21;(try simp only [dn] at hg21);refine pm hS ?_;refine pnk hS ?_;refine pf0 hS qU178 qZ9 ?_;refine pld hS 1 qA9 ?_;refine pm hS ?_;refine pnk hS ?_;refine pfz hS 1 qU178 qZ3 ?_;refine pld hS 1 qA3 ?_;refine zA2 rfl rfl rfl hS (fun w st=>zP1 (k:=_) rfl rfl qU9 rfl (by omega)) ?_;refine zD0 rfl (zA1 [_] rfl rfl call113 rfl (qF3 _ _) ?_);rintro _ _ ⟨rfl,rfl⟩;refine zA9 (by exact st) ?_;intro hS;refine zA2 rfl rfl rfl hS (fun w st=>zJ0 rfl rfl) ?_;refine zC6 (zA6 ?_);refine vif ?_ ?_
  ·intro hc32;(try simp only [dn] at hc32);have hdg:=qX6 hc32;refine a4 ?_;refine qJ5 Tryz.mixed [Yt 0,Yt 1,Yt 2,Yt 3,Yt 4,Yt 5,Yt 6,Yt 7,Yt 8,Yt 9,Yt 10,Yt 11] st ?_;clear st;intro w st hS;refine pm hS ?_;refine pnk hS ?_;refine pf0 hS qU178 qZ9 ?_;refine pld hS 1 qA9 ?_;refine pm hS ?_;refine pnk hS ?_;refine pfz hS 1 qU178 qZ3 ?_;refine pld hS 1 qA3 ?_;refine zA2 rfl rfl rfl hS (fun w st=>zP1 (k:=_) rfl rfl qU9 rfl (by omega)) ?_;refine zA2 rfl rfl rfl hS (fun w st=>qV4 rfl rfl (by rw [qD2];omega:_=(((s.getD j 0).toNat - 48:Nat):Int))) ?_;refine zA2 rfl rfl rfl hS (fun w st=>qB7 rfl qU182 qU5 (by rw [zF7];omega:_=(((s.getD j 0).toNat - 48:Nat):Int))) ?_;refine zA2 rfl rfl rfl hS (fun w st=>qL1 rfl) ?_;refine zC6 (zA6 (sr ?_));refine a1 ?_;refine vmb ?_ ?_
   ·intro hg45;(try simp only [dn] at hg45);refine a12 ?_;refine vy (gJ9 rfl rfl (by rw [zF7];omega:_=((n*10 % 18446744073709551616:Nat):Int))) ?_;refine a1 ?_;refine vy (qJ1 rfl rfl (by rw [zF7];omega:_=(((n*10 % 18446744073709551616+((s.getD j 0).toNat - 48)) % 18446744073709551616:Nat):Int))) ?_;refine a6 ?_;refine yfz 1 qU178 qZ3 ?_;refine yl st 1 qA3 ?_;refine vy (zK2 rfl rfl rfl (by omega) (by omega)) ?_;refine a1 ?_;refine yfz 1 qU178 qZ3 ?_;refine zA3 (est st 1 qZ3 ?_);intro w st;dsimp only [zA0,wr] at st;refine a2 ?_;refine zA7 (j+1,(n*10 % 18446744073709551616+((s.getD j 0).toNat - 48)) % 18446744073709551616,true)  ⟨rfl,rfl,rfl,rfl,rfl,trivial⟩ st ?_ ?_
    ·refine⟨by omega,by omega,qK5 hij (by omega) (by assumption) he,Nat.mod_lt _ (by decide),?_,?_⟩
     all_goals (dsimp only;have hns:=gY4 hij (show j<s.length by omega))
     rw [hns]
     (symm;rw [decide_eq_true_eq];subst hg45;have hh:=hgr.symm;rw [decide_eq_true_eq] at hh;omega)
     intro hf
     (cases hf;done)
    dsimp only;omega
   intro hg45;(try simp only [dn] at hg45);refine a2 ?_;refine vy (qV4 rfl rfl (by rw [zF7];omega:_=((9223372036854775807 - ((s.getD j 0).toNat - 48):Nat):Int))) ?_;refine vy (gL2 rfl rfl (by omega) (by omega) (by rw [zF7];omega:_=(((9223372036854775807 - ((s.getD j 0).toNat - 48)) / 10:Nat):Int))) ?_;refine a8 ?_;refine vy (gJ9 rfl rfl (by rw [zF7];omega:_=((n*10 % 18446744073709551616:Nat):Int))) ?_;refine a1 ?_;refine vy (qJ1 rfl rfl (by rw [zF7];omega:_=(((n*10 % 18446744073709551616+((s.getD j 0).toNat - 48)) % 18446744073709551616:Nat):Int))) ?_;refine a6 ?_;refine yfz 1 qU178 qZ3 ?_;refine yl st 1 qA3 ?_;refine vy (zK2 rfl rfl rfl (by omega) (by omega)) ?_;refine a1 ?_;refine yfz 1 qU178 qZ3 ?_;refine zA3 (est st 1 qZ3 ?_);intro w st;dsimp only [zA0,wr] at st;refine a2 ?_;refine zA7 (j+1,(n*10 % 18446744073709551616+((s.getD j 0).toNat - 48)) % 18446744073709551616,decide ((((9223372036854775807 - ((s.getD j 0).toNat - 48)) / 10:Nat):Int)<(n:Int)))  ⟨rfl,rfl,rfl,rfl,rfl,trivial⟩ st ?_ ?_
   ·refine⟨by omega,by omega,qK5 hij (by omega) (by assumption) he,Nat.mod_lt _ (by decide),?_,?_⟩
    all_goals (dsimp only;have hns:=gY4 hij (show j<s.length by omega))
    rw [hns]
    first
    | (have hz : n = zG6 ((s.drop i).take (j - i)) := hn hg45
       rw [Bool.eq_iff_iff,decide_eq_true_eq,decide_eq_true_eq,← hz];omega)
    intro hf
    first
    | (have hz : n = zG6 ((s.drop i).take (j - i)) := hn hg45
       rw [decide_eq_false_iff_not] at hf
       rw [hns,← hz];omega)
   dsimp only;omega
  intro hc32;(try simp only [dn] at hc32);have hT:=qR9 (fun _=>by assumption) he;refine a11 ?_;refine yfz 1 qU178 qZ3 ?_;refine yl st 1 qA3 ?_;refine a1 ?_;refine vy (zK2 rfl rfl rfl (by omega) (by omega)) ?_;refine a1 ?_;refine vmb ?_ ?_
  focus
   intro hg71;(try simp only [dn] at hg71);refine a2 ?_;refine vy (zC3 rfl qU178 rfl rfl qZ9 rfl) ?_;refine yl st 1 qA9 ?_;refine a1 ?_;refine vy (zP1 (k:=_) rfl rfl qU9 rfl (by omega)) ?_;refine a2 ?_;refine vmb ?_ ?_;intro hg80;(try simp only [dn] at hg80);refine a10 ?_;refine zA3 (zA1 [_,_,_] rfl rfl call229 rfl (zN2 b s _ _ _ _ _ _ (st.res (i:=1) rfl)) ?_);rintro _ w ⟨rfl,cw,hw⟩;replace st:=st.turn (i:=1) (r':=.blk b _) rfl rfl rfl cw (.inl (by simp)) hw;dsimp only [zA0] at st;refine zA3 (zC4 st 0 [_,_,_,_] qZ118 ?_);intro w st;dsimp only [zA0,wr] at st;refine a5 ?_
   rotate_left
   focus
    intro hg80;(try simp only [dn] at hg80);refine a5 ?_;refine vif ?_ ?_;intro hc63;(try simp only [dn] at hc63);refine a4 ?_;refine zA3 (zA1 [_,_,_] rfl rfl call229 rfl (zN2 b s _ _ _ _ _ _ (st.res (i:=1) rfl)) ?_);rintro _ w ⟨rfl,cw,hw⟩;replace st:=st.turn (i:=1) (r':=.blk b _) rfl rfl rfl cw (.inl (by simp)) hw;dsimp only [zA0] at st;refine zA3 (zC4 st 0 [_,_,_,_] qZ118 ?_);intro w st;dsimp only [zA0,wr] at st;refine a5 ?_
    rotate_left
    focus
     intro hc63;(try simp only [dn] at hc63);have hnn:=hn hc63;have hM:n≤9223372036854775807:=by rw [hc63] at hgr;have:=of_decide_eq_false hgr.symm;omega
     refine a1 ?_;refine qJ5 Tryz.mixed [Yt 0,Yt 1,Yt 2,Yt 3,Yt 4,Yt 5,Yt 6,Yt 7,Yt 8,Yt 9,Yt 10,Yt 11,Yt 12,Yt 13,Yt 14,Yt 15,Yt 16,Yt 17,Yt 18,Yt 19,Nt 20,Yt 21,Yt 22] st ?_;clear st;intro w st hS;refine pm hS ?_;refine pnk hS ?_;refine pfz hS 1 qU178 qZ3 ?_;refine pld hS 1 qA3 ?_;refine pm hS ?_;refine pnk hS ?_;refine pf0 hS qU178 qZ9 ?_;refine pld hS 1 qA9 ?_;refine zA2 rfl rfl rfl hS (fun w st=>zH8 rfl qU9) ?_;refine zA2 rfl rfl rfl hS (fun w st=>zM5 rfl rfl) ?_;refine zL4 rfl rfl rfl hS rfl ?_ ?_
     focus
      intro hg97;(try simp only [dn] at hg97);refine pm hS ?_;refine pnk hS ?_;refine pf0 hS qU178 qZ9 ?_;refine pld hS 1 qA9 ?_;refine pm hS ?_;refine pnk hS ?_;refine pfz hS 1 qU178 qZ3 ?_;refine pld hS 1 qA3 ?_;refine zA2 rfl rfl rfl hS (fun w st=>zP1 (k:=_) rfl rfl qU9 rfl (by omega)) ?_;refine zD0 rfl (zA1 [_] rfl rfl call115 rfl (zS3 _ _) ?_);rintro _ _ ⟨rfl,rfl⟩;refine zA9 (by exact st) ?_;intro hS;refine zA2 rfl rfl rfl hS (fun w st=>zJ0 rfl rfl) ?_;refine zA2 rfl rfl rfl hS (fun w st=>qL1 rfl) ?_;refine zC6 (zA6 ?_);refine vif ?_ ?_;intro hc86;(try simp only [dn] at hc86);refine a5 ?_;refine yfz 1 qU178 qZ3 ?_;refine yl st 1 qA3 ?_;refine zA3 (zA1 [_,_,_] rfl rfl call229 rfl (zN2 b s _ _ _ _ _ _ (st.res (i:=1) rfl)) ?_);rintro _ w ⟨rfl,cw,hw⟩;replace st:=st.turn (i:=1) (r':=.blk b _) rfl rfl rfl cw (.inl (by simp)) hw;dsimp only [zA0] at st;refine zA3 (zC4 st 0 [_,_,_,_] qZ118 ?_);intro w st;dsimp only [zA0,wr] at st;refine a5 ?_
      rotate_left
      intro hc86;(try simp only [dn] at hc86);refine a4 ?_;refine vdr Tryz.mixed [Yt 0,Yt 1,Yt 2,Yt 3,Yt 4,Yt 5,Yt 6,Yt 7,Yt 8,Yt 9,Yt 10,Yt 11,Yt 12,Yt 13,Nt 14] [.blk b (scn s j fa fr)] st ?_;clear st;intro w st hS;refine pm hS ?_;refine pnk hS ?_;refine pf0 hS qU178 qZ9 ?_;refine pld hS 0 qA9 ?_;(iterate 2 refine pm hS ?_);refine pnk hS ?_;refine pfz hS 1 qU178 qZ3 ?_;refine pld hS 0 qA3 ?_;refine zA2 rfl rfl rfl hS (fun w st=>zT6 (i:=_) (j:=_) rfl rfl rfl qU9 rfl rfl (by omega) (by omega)) ?_;refine pm hS ?_;refine zA2 rfl rfl rfl hS (fun w st=>qB7 rfl qU2 qU182 (IntWalk.i64_in _ ⟨by omega,by omega⟩:_=(n:Int))) ?_;refine pm hS ?_;refine zA2 rfl rfl rfl hS (fun w st=>ybd (.agg #[_,_,_,_]) [(0,_),(1,_),(2,_),(3,_)]) ?_;refine zD0 rfl (zC4 st 0 [_,_,_,_] qZ118 ?_);intro w st;dsimp only [zA0,wr] at st;refine zA9 st.dr ?_;intro hS;refine zC6 (zA6 (zA8 ?_))
     rotate_left 2
     intro hg97;(try simp only [dn] at hg97);(iterate 9 refine zF5 rfl rfl rfl hS ?_);refine zD0 rfl (zO6 rfl rfl (zA9 hS (fun hS=>?_)));refine zA2 rfl rfl rfl hS (fun w st=>zN rfl rfl) ?_;refine zA2 rfl rfl rfl hS (fun w st=>qL1 rfl) ?_;refine zC6 (zA6 ?_);refine a5 ?_;refine vdr Tryz.mixed [Yt 0,Yt 1,Yt 2,Yt 3,Yt 4,Yt 5,Yt 6,Yt 7,Yt 8,Yt 9,Yt 10,Yt 11,Yt 12,Yt 13,Nt 14] [.blk b (scn s j fa fr)] st ?_;clear st;intro w st hS;refine pm hS ?_;refine pnk hS ?_;refine pf0 hS qU178 qZ9 ?_;refine pld hS 0 qA9 ?_;(iterate 2 refine pm hS ?_);refine pnk hS ?_;refine pfz hS 1 qU178 qZ3 ?_;refine pld hS 0 qA3 ?_;refine zA2 rfl rfl rfl hS (fun w st=>zT6 (i:=_) (j:=_) rfl rfl rfl qU9 rfl rfl (by omega) (by omega)) ?_;refine pm hS ?_;refine zA2 rfl rfl rfl hS (fun w st=>qB7 rfl qU2 qU182 (IntWalk.i64_in _ ⟨by omega,by omega⟩:_=(n:Int))) ?_;refine pm hS ?_;refine zA2 rfl rfl rfl hS (fun w st=>ybd (.agg #[_,_,_,_]) [(0,_),(1,_),(2,_),(3,_)]) ?_;refine zD0 rfl (zC4 st 0 [_,_,_,_] qZ118 ?_);intro w st;dsimp only [zA0,wr] at st;refine zA9 st.dr ?_;intro hS;refine zC6 (zA6 (zA8 ?_))
  rotate_left 5
  focus
   intro hg71;(try simp only [dn] at hg71);refine a14 ?_;refine vif ?_ ?_;intro hc63;(try simp only [dn] at hc63);refine a4 ?_;refine zA3 (zA1 [_,_,_] rfl rfl call229 rfl (zN2 b s _ _ _ _ _ _ (st.res (i:=1) rfl)) ?_);rintro _ w ⟨rfl,cw,hw⟩;replace st:=st.turn (i:=1) (r':=.blk b _) rfl rfl rfl cw (.inl (by simp)) hw;dsimp only [zA0] at st;refine zA3 (zC4 st 0 [_,_,_,_] qZ118 ?_);intro w st;dsimp only [zA0,wr] at st;refine a5 ?_
   rotate_left
   focus
    intro hc63;(try simp only [dn] at hc63);have hnn:=hn hc63;have hM:n≤9223372036854775807:=by rw [hc63] at hgr;have:=of_decide_eq_false hgr.symm;omega
    refine a1 ?_;refine qJ5 Tryz.mixed [Yt 0,Yt 1,Yt 2,Yt 3,Yt 4,Yt 5,Yt 6,Yt 7,Yt 8,Yt 9,Yt 10,Yt 11,Yt 12,Yt 13,Yt 14,Yt 15,Yt 16,Yt 17,Yt 18,Yt 19,Nt 20,Yt 21,Yt 22] st ?_;clear st;intro w st hS;refine pm hS ?_;refine pnk hS ?_;refine pfz hS 1 qU178 qZ3 ?_;refine pld hS 1 qA3 ?_;refine pm hS ?_;refine pnk hS ?_;refine pf0 hS qU178 qZ9 ?_;refine pld hS 1 qA9 ?_;refine zA2 rfl rfl rfl hS (fun w st=>zH8 rfl qU9) ?_;refine zA2 rfl rfl rfl hS (fun w st=>zM5 rfl rfl) ?_;refine zL4 rfl rfl rfl hS rfl ?_ ?_
    focus
     intro hg97;(try simp only [dn] at hg97);refine pm hS ?_;refine pnk hS ?_;refine pf0 hS qU178 qZ9 ?_;refine pld hS 1 qA9 ?_;refine pm hS ?_;refine pnk hS ?_;refine pfz hS 1 qU178 qZ3 ?_;refine pld hS 1 qA3 ?_;refine zA2 rfl rfl rfl hS (fun w st=>zP1 (k:=_) rfl rfl qU9 rfl (by omega)) ?_;refine zD0 rfl (zA1 [_] rfl rfl call115 rfl (zS3 _ _) ?_);rintro _ _ ⟨rfl,rfl⟩;refine zA9 (by exact st) ?_;intro hS;refine zA2 rfl rfl rfl hS (fun w st=>zJ0 rfl rfl) ?_;refine zA2 rfl rfl rfl hS (fun w st=>qL1 rfl) ?_;refine zC6 (zA6 ?_);refine vif ?_ ?_;intro hc86;(try simp only [dn] at hc86);refine a5 ?_;refine yfz 1 qU178 qZ3 ?_;refine yl st 1 qA3 ?_;refine zA3 (zA1 [_,_,_] rfl rfl call229 rfl (zN2 b s _ _ _ _ _ _ (st.res (i:=1) rfl)) ?_);rintro _ w ⟨rfl,cw,hw⟩;replace st:=st.turn (i:=1) (r':=.blk b _) rfl rfl rfl cw (.inl (by simp)) hw;dsimp only [zA0] at st;refine zA3 (zC4 st 0 [_,_,_,_] qZ118 ?_);intro w st;dsimp only [zA0,wr] at st;refine a5 ?_
     rotate_left
     intro hc86;(try simp only [dn] at hc86);refine a4 ?_;refine vdr Tryz.mixed [Yt 0,Yt 1,Yt 2,Yt 3,Yt 4,Yt 5,Yt 6,Yt 7,Yt 8,Yt 9,Yt 10,Yt 11,Yt 12,Yt 13,Nt 14] [.blk b (scn s j fa fr)] st ?_;clear st;intro w st hS;refine pm hS ?_;refine pnk hS ?_;refine pf0 hS qU178 qZ9 ?_;refine pld hS 0 qA9 ?_;(iterate 2 refine pm hS ?_);refine pnk hS ?_;refine pfz hS 1 qU178 qZ3 ?_;refine pld hS 0 qA3 ?_;refine zA2 rfl rfl rfl hS (fun w st=>zT6 (i:=_) (j:=_) rfl rfl rfl qU9 rfl rfl (by omega) (by omega)) ?_;refine pm hS ?_;refine zA2 rfl rfl rfl hS (fun w st=>qB7 rfl qU2 qU182 (IntWalk.i64_in _ ⟨by omega,by omega⟩:_=(n:Int))) ?_;refine pm hS ?_;refine zA2 rfl rfl rfl hS (fun w st=>ybd (.agg #[_,_,_,_]) [(0,_),(1,_),(2,_),(3,_)]) ?_;refine zD0 rfl (zC4 st 0 [_,_,_,_] qZ118 ?_);intro w st;dsimp only [zA0,wr] at st;refine zA9 st.dr ?_;intro hS;refine zC6 (zA6 (zA8 ?_))
    rotate_left 2
    intro hg97;(try simp only [dn] at hg97);(iterate 9 refine zF5 rfl rfl rfl hS ?_);refine zD0 rfl (zO6 rfl rfl (zA9 hS (fun hS=>?_)));refine zA2 rfl rfl rfl hS (fun w st=>zN rfl rfl) ?_;refine zA2 rfl rfl rfl hS (fun w st=>qL1 rfl) ?_;refine zC6 (zA6 ?_);refine a5 ?_;refine vdr Tryz.mixed [Yt 0,Yt 1,Yt 2,Yt 3,Yt 4,Yt 5,Yt 6,Yt 7,Yt 8,Yt 9,Yt 10,Yt 11,Yt 12,Yt 13,Nt 14] [.blk b (scn s j fa fr)] st ?_;clear st;intro w st hS;refine pm hS ?_;refine pnk hS ?_;refine pf0 hS qU178 qZ9 ?_;refine pld hS 0 qA9 ?_;(iterate 2 refine pm hS ?_);refine pnk hS ?_;refine pfz hS 1 qU178 qZ3 ?_;refine pld hS 0 qA3 ?_;refine zA2 rfl rfl rfl hS (fun w st=>zT6 (i:=_) (j:=_) rfl rfl rfl qU9 rfl rfl (by omega) (by omega)) ?_;refine pm hS ?_;refine zA2 rfl rfl rfl hS (fun w st=>qB7 rfl qU2 qU182 (IntWalk.i64_in _ ⟨by omega,by omega⟩:_=(n:Int))) ?_;refine pm hS ?_;refine zA2 rfl rfl rfl hS (fun w st=>ybd (.agg #[_,_,_,_]) [(0,_),(1,_),(2,_),(3,_)]) ?_;refine zD0 rfl (zC4 st 0 [_,_,_,_] qZ118 ?_);intro w st;dsimp only [zA0,wr] at st;refine zA9 st.dr ?_;intro hS;refine zC6 (zA6 (zA8 ?_))
  all_goals
   refine zB7 st (.inl rfl) results200 (by exact .cell 0 rfl rfl qA118 qZ118) ?_;refine⟨_,rfl,?_⟩;have hlen:(List.take (j - i) (List.drop i s)).length=j - i:=by simp;omega
   have hpos:i<j:=by
    rcases Nat.lt_or_ge i j with h|h
    ·exact h
    ·exfalso
     rw [show j - i=0 by omega,List.take_zero,zG8 hi,List.takeWhile_cons,if_pos hd] at hT
     cases hT
   refine⟨st.chg,?_⟩;rw [qY9 hi hc hd,hT,hlen,show i+(j - i)=j by omega];have hr:=st.res (i:=1) rfl
   first
   | (rw [if_pos (.inl ⟨by omega,gR5 (by assumption)⟩)];exact⟨rfl,_,hr⟩)
   | (rw [if_pos (.inr (of_decide_eq_true (by rw [← hgr];assumption)))];exact⟨rfl,_,hr⟩)
   | (have hNB:¬((1<j - i∧s.getD i 0=48)∨9223372036854775807<zG6 (List.take (j - i) (List.drop i s))):=by
        rintro (⟨h1,h2⟩|h2)
        · have h3:((s.getD i 0).toNat:Int)=48:=by rw [h2];rfl
          omega
        · omega
      rw [if_neg hNB]
      first
      | (rw [if_pos ⟨by omega,by assumption⟩];exact⟨rfl,_,hr⟩)
      | (rw [if_neg (by rintro ⟨h1, h2⟩; first | omega | simp_all)]
         exact⟨by rw [← hnn];rfl,by dsimp only;rw [hlen,show i+(j - i)=j by omega];exact hr⟩))
 intro hg21;(try simp only [dn] at hg21);have hT:=qR9 (fun h=>absurd h (by omega)) he;(iterate 9 refine zF5 rfl rfl rfl hS ?_);refine zD0 rfl (zO6 rfl rfl (zA9 hS (fun hS=>?_)));refine zA2 rfl rfl rfl hS (fun w st=>zN rfl rfl) ?_;refine zC6 (zA6 ?_);refine a12 ?_;refine yfz 1 qU178 qZ3 ?_;refine yl st 1 qA3 ?_;refine a1 ?_;refine vy (zK2 rfl rfl rfl (by omega) (by omega)) ?_;refine a1 ?_;refine vmb ?_ ?_
 focus
  intro hg71;(try simp only [dn] at hg71);refine a2 ?_;refine vy (zC3 rfl qU178 rfl rfl qZ9 rfl) ?_;refine yl st 1 qA9 ?_;refine a1 ?_;refine vy (zP1 (k:=_) rfl rfl qU9 rfl (by omega)) ?_;refine a2 ?_;refine vmb ?_ ?_;intro hg80;(try simp only [dn] at hg80);refine a10 ?_;refine zA3 (zA1 [_,_,_] rfl rfl call229 rfl (zN2 b s _ _ _ _ _ _ (st.res (i:=1) rfl)) ?_);rintro _ w ⟨rfl,cw,hw⟩;replace st:=st.turn (i:=1) (r':=.blk b _) rfl rfl rfl cw (.inl (by simp)) hw;dsimp only [zA0] at st;refine zA3 (zC4 st 0 [_,_,_,_] qZ118 ?_);intro w st;dsimp only [zA0,wr] at st;refine a5 ?_
  rotate_left
  focus
   intro hg80;(try simp only [dn] at hg80);refine a5 ?_;refine vif ?_ ?_;intro hc63;(try simp only [dn] at hc63);refine a4 ?_;refine zA3 (zA1 [_,_,_] rfl rfl call229 rfl (zN2 b s _ _ _ _ _ _ (st.res (i:=1) rfl)) ?_);rintro _ w ⟨rfl,cw,hw⟩;replace st:=st.turn (i:=1) (r':=.blk b _) rfl rfl rfl cw (.inl (by simp)) hw;dsimp only [zA0] at st;refine zA3 (zC4 st 0 [_,_,_,_] qZ118 ?_);intro w st;dsimp only [zA0,wr] at st;refine a5 ?_
   rotate_left
   focus
    intro hc63;(try simp only [dn] at hc63);have hnn:=hn hc63;have hM:n≤9223372036854775807:=by rw [hc63] at hgr;have:=of_decide_eq_false hgr.symm;omega
    refine a1 ?_;refine qJ5 Tryz.mixed [Yt 0,Yt 1,Yt 2,Yt 3,Yt 4,Yt 5,Yt 6,Yt 7,Yt 8,Yt 9,Yt 10,Yt 11,Yt 12,Yt 13,Yt 14,Yt 15,Yt 16,Yt 17,Yt 18,Yt 19,Nt 20,Yt 21,Yt 22] st ?_;clear st;intro w st hS;refine pm hS ?_;refine pnk hS ?_;refine pfz hS 1 qU178 qZ3 ?_;refine pld hS 1 qA3 ?_;refine pm hS ?_;refine pnk hS ?_;refine pf0 hS qU178 qZ9 ?_;refine pld hS 1 qA9 ?_;refine zA2 rfl rfl rfl hS (fun w st=>zH8 rfl qU9) ?_;refine zA2 rfl rfl rfl hS (fun w st=>zM5 rfl rfl) ?_;refine zL4 rfl rfl rfl hS rfl ?_ ?_
    focus
     intro hg97;(try simp only [dn] at hg97);refine pm hS ?_;refine pnk hS ?_;refine pf0 hS qU178 qZ9 ?_;refine pld hS 1 qA9 ?_;refine pm hS ?_;refine pnk hS ?_;refine pfz hS 1 qU178 qZ3 ?_;refine pld hS 1 qA3 ?_;refine zA2 rfl rfl rfl hS (fun w st=>zP1 (k:=_) rfl rfl qU9 rfl (by omega)) ?_;refine zD0 rfl (zA1 [_] rfl rfl call115 rfl (zS3 _ _) ?_);rintro _ _ ⟨rfl,rfl⟩;refine zA9 (by exact st) ?_;intro hS;refine zA2 rfl rfl rfl hS (fun w st=>zJ0 rfl rfl) ?_;refine zA2 rfl rfl rfl hS (fun w st=>qL1 rfl) ?_;refine zC6 (zA6 ?_);refine vif ?_ ?_;intro hc86;(try simp only [dn] at hc86);refine a5 ?_;refine yfz 1 qU178 qZ3 ?_;refine yl st 1 qA3 ?_;refine zA3 (zA1 [_,_,_] rfl rfl call229 rfl (zN2 b s _ _ _ _ _ _ (st.res (i:=1) rfl)) ?_);rintro _ w ⟨rfl,cw,hw⟩;replace st:=st.turn (i:=1) (r':=.blk b _) rfl rfl rfl cw (.inl (by simp)) hw;dsimp only [zA0] at st;refine zA3 (zC4 st 0 [_,_,_,_] qZ118 ?_);intro w st;dsimp only [zA0,wr] at st;refine a5 ?_
     rotate_left
     intro hc86;(try simp only [dn] at hc86);refine a4 ?_;refine vdr Tryz.mixed [Yt 0,Yt 1,Yt 2,Yt 3,Yt 4,Yt 5,Yt 6,Yt 7,Yt 8,Yt 9,Yt 10,Yt 11,Yt 12,Yt 13,Nt 14] [.blk b (scn s j fa fr)] st ?_;clear st;intro w st hS;refine pm hS ?_;refine pnk hS ?_;refine pf0 hS qU178 qZ9 ?_;refine pld hS 0 qA9 ?_;(iterate 2 refine pm hS ?_);refine pnk hS ?_;refine pfz hS 1 qU178 qZ3 ?_;refine pld hS 0 qA3 ?_;refine zA2 rfl rfl rfl hS (fun w st=>zT6 (i:=_) (j:=_) rfl rfl rfl qU9 rfl rfl (by omega) (by omega)) ?_;refine pm hS ?_;refine zA2 rfl rfl rfl hS (fun w st=>qB7 rfl qU2 qU182 (IntWalk.i64_in _ ⟨by omega,by omega⟩:_=(n:Int))) ?_;refine pm hS ?_;refine zA2 rfl rfl rfl hS (fun w st=>ybd (.agg #[_,_,_,_]) [(0,_),(1,_),(2,_),(3,_)]) ?_;refine zD0 rfl (zC4 st 0 [_,_,_,_] qZ118 ?_);intro w st;dsimp only [zA0,wr] at st;refine zA9 st.dr ?_;intro hS;refine zC6 (zA6 (zA8 ?_))
    rotate_left 2
    intro hg97;(try simp only [dn] at hg97);(iterate 9 refine zF5 rfl rfl rfl hS ?_);refine zD0 rfl (zO6 rfl rfl (zA9 hS (fun hS=>?_)));refine zA2 rfl rfl rfl hS (fun w st=>zN rfl rfl) ?_;refine zA2 rfl rfl rfl hS (fun w st=>qL1 rfl) ?_;refine zC6 (zA6 ?_);refine a5 ?_;refine vdr Tryz.mixed [Yt 0,Yt 1,Yt 2,Yt 3,Yt 4,Yt 5,Yt 6,Yt 7,Yt 8,Yt 9,Yt 10,Yt 11,Yt 12,Yt 13,Nt 14] [.blk b (scn s j fa fr)] st ?_;clear st;intro w st hS;refine pm hS ?_;refine pnk hS ?_;refine pf0 hS qU178 qZ9 ?_;refine pld hS 0 qA9 ?_;(iterate 2 refine pm hS ?_);refine pnk hS ?_;refine pfz hS 1 qU178 qZ3 ?_;refine pld hS 0 qA3 ?_;refine zA2 rfl rfl rfl hS (fun w st=>zT6 (i:=_) (j:=_) rfl rfl rfl qU9 rfl rfl (by omega) (by omega)) ?_;refine pm hS ?_;refine zA2 rfl rfl rfl hS (fun w st=>qB7 rfl qU2 qU182 (IntWalk.i64_in _ ⟨by omega,by omega⟩:_=(n:Int))) ?_;refine pm hS ?_;refine zA2 rfl rfl rfl hS (fun w st=>ybd (.agg #[_,_,_,_]) [(0,_),(1,_),(2,_),(3,_)]) ?_;refine zD0 rfl (zC4 st 0 [_,_,_,_] qZ118 ?_);intro w st;dsimp only [zA0,wr] at st;refine zA9 st.dr ?_;intro hS;refine zC6 (zA6 (zA8 ?_))
 rotate_left 5
 focus
  intro hg71;(try simp only [dn] at hg71);refine a14 ?_;refine vif ?_ ?_;intro hc63;(try simp only [dn] at hc63);refine a4 ?_;refine zA3 (zA1 [_,_,_] rfl rfl call229 rfl (zN2 b s _ _ _ _ _ _ (st.res (i:=1) rfl)) ?_);rintro _ w ⟨rfl,cw,hw⟩;replace st:=st.turn (i:=1) (r':=.blk b _) rfl rfl rfl cw (.inl (by simp)) hw;dsimp only [zA0] at st;refine zA3 (zC4 st 0 [_,_,_,_] qZ118 ?_);intro w st;dsimp only [zA0,wr] at st;refine a5 ?_
  rotate_left
  focus
   intro hc63;(try simp only [dn] at hc63);have hnn:=hn hc63;have hM:n≤9223372036854775807:=by rw [hc63] at hgr;have:=of_decide_eq_false hgr.symm;omega
   refine a1 ?_;refine qJ5 Tryz.mixed [Yt 0,Yt 1,Yt 2,Yt 3,Yt 4,Yt 5,Yt 6,Yt 7,Yt 8,Yt 9,Yt 10,Yt 11,Yt 12,Yt 13,Yt 14,Yt 15,Yt 16,Yt 17,Yt 18,Yt 19,Nt 20,Yt 21,Yt 22] st ?_;clear st;intro w st hS;refine pm hS ?_;refine pnk hS ?_;refine pfz hS 1 qU178 qZ3 ?_;refine pld hS 1 qA3 ?_;refine pm hS ?_;refine pnk hS ?_;refine pf0 hS qU178 qZ9 ?_;refine pld hS 1 qA9 ?_;refine zA2 rfl rfl rfl hS (fun w st=>zH8 rfl qU9) ?_;refine zA2 rfl rfl rfl hS (fun w st=>zM5 rfl rfl) ?_;refine zL4 rfl rfl rfl hS rfl ?_ ?_
   focus
    intro hg97;(try simp only [dn] at hg97);refine pm hS ?_;refine pnk hS ?_;refine pf0 hS qU178 qZ9 ?_;refine pld hS 1 qA9 ?_;refine pm hS ?_;refine pnk hS ?_;refine pfz hS 1 qU178 qZ3 ?_;refine pld hS 1 qA3 ?_;refine zA2 rfl rfl rfl hS (fun w st=>zP1 (k:=_) rfl rfl qU9 rfl (by omega)) ?_;refine zD0 rfl (zA1 [_] rfl rfl call115 rfl (zS3 _ _) ?_);rintro _ _ ⟨rfl,rfl⟩;refine zA9 (by exact st) ?_;intro hS;refine zA2 rfl rfl rfl hS (fun w st=>zJ0 rfl rfl) ?_;refine zA2 rfl rfl rfl hS (fun w st=>qL1 rfl) ?_;refine zC6 (zA6 ?_);refine vif ?_ ?_;intro hc86;(try simp only [dn] at hc86);refine a5 ?_;refine yfz 1 qU178 qZ3 ?_;refine yl st 1 qA3 ?_;refine zA3 (zA1 [_,_,_] rfl rfl call229 rfl (zN2 b s _ _ _ _ _ _ (st.res (i:=1) rfl)) ?_);rintro _ w ⟨rfl,cw,hw⟩;replace st:=st.turn (i:=1) (r':=.blk b _) rfl rfl rfl cw (.inl (by simp)) hw;dsimp only [zA0] at st;refine zA3 (zC4 st 0 [_,_,_,_] qZ118 ?_);intro w st;dsimp only [zA0,wr] at st;refine a5 ?_
    rotate_left
    intro hc86;(try simp only [dn] at hc86);refine a4 ?_;refine vdr Tryz.mixed [Yt 0,Yt 1,Yt 2,Yt 3,Yt 4,Yt 5,Yt 6,Yt 7,Yt 8,Yt 9,Yt 10,Yt 11,Yt 12,Yt 13,Nt 14] [.blk b (scn s j fa fr)] st ?_;clear st;intro w st hS;refine pm hS ?_;refine pnk hS ?_;refine pf0 hS qU178 qZ9 ?_;refine pld hS 0 qA9 ?_;(iterate 2 refine pm hS ?_);refine pnk hS ?_;refine pfz hS 1 qU178 qZ3 ?_;refine pld hS 0 qA3 ?_;refine zA2 rfl rfl rfl hS (fun w st=>zT6 (i:=_) (j:=_) rfl rfl rfl qU9 rfl rfl (by omega) (by omega)) ?_;refine pm hS ?_;refine zA2 rfl rfl rfl hS (fun w st=>qB7 rfl qU2 qU182 (IntWalk.i64_in _ ⟨by omega,by omega⟩:_=(n:Int))) ?_;refine pm hS ?_;refine zA2 rfl rfl rfl hS (fun w st=>ybd (.agg #[_,_,_,_]) [(0,_),(1,_),(2,_),(3,_)]) ?_;refine zD0 rfl (zC4 st 0 [_,_,_,_] qZ118 ?_);intro w st;dsimp only [zA0,wr] at st;refine zA9 st.dr ?_;intro hS;refine zC6 (zA6 (zA8 ?_))
   rotate_left 2
   intro hg97;(try simp only [dn] at hg97);(iterate 9 refine zF5 rfl rfl rfl hS ?_);refine zD0 rfl (zO6 rfl rfl (zA9 hS (fun hS=>?_)));refine zA2 rfl rfl rfl hS (fun w st=>zN rfl rfl) ?_;refine zA2 rfl rfl rfl hS (fun w st=>qL1 rfl) ?_;refine zC6 (zA6 ?_);refine a5 ?_;refine vdr Tryz.mixed [Yt 0,Yt 1,Yt 2,Yt 3,Yt 4,Yt 5,Yt 6,Yt 7,Yt 8,Yt 9,Yt 10,Yt 11,Yt 12,Yt 13,Nt 14] [.blk b (scn s j fa fr)] st ?_;clear st;intro w st hS;refine pm hS ?_;refine pnk hS ?_;refine pf0 hS qU178 qZ9 ?_;refine pld hS 0 qA9 ?_;(iterate 2 refine pm hS ?_);refine pnk hS ?_;refine pfz hS 1 qU178 qZ3 ?_;refine pld hS 0 qA3 ?_;refine zA2 rfl rfl rfl hS (fun w st=>zT6 (i:=_) (j:=_) rfl rfl rfl qU9 rfl rfl (by omega) (by omega)) ?_;refine pm hS ?_;refine zA2 rfl rfl rfl hS (fun w st=>qB7 rfl qU2 qU182 (IntWalk.i64_in _ ⟨by omega,by omega⟩:_=(n:Int))) ?_;refine pm hS ?_;refine zA2 rfl rfl rfl hS (fun w st=>ybd (.agg #[_,_,_,_]) [(0,_),(1,_),(2,_),(3,_)]) ?_;refine zD0 rfl (zC4 st 0 [_,_,_,_] qZ118 ?_);intro w st;dsimp only [zA0,wr] at st;refine zA9 st.dr ?_;intro hS;refine zC6 (zA6 (zA8 ?_))
 all_goals
  refine zB7 st (.inl rfl) results200 (by exact .cell 0 rfl rfl qA118 qZ118) ?_;refine⟨_,rfl,?_⟩;have hlen:(List.take (j - i) (List.drop i s)).length=j - i:=by simp;omega
  have hpos:i<j:=by
   rcases Nat.lt_or_ge i j with h|h
   ·exact h
   ·exfalso
    rw [show j - i=0 by omega,List.take_zero,zG8 hi,List.takeWhile_cons,if_pos hd] at hT
    cases hT
  refine⟨st.chg,?_⟩;rw [qY9 hi hc hd,hT,hlen,show i+(j - i)=j by omega];have hr:=st.res (i:=1) rfl
  first
  | (rw [if_pos (.inl ⟨by omega,gR5 (by assumption)⟩)];exact⟨rfl,_,hr⟩)
  | (rw [if_pos (.inr (of_decide_eq_true (by rw [← hgr];assumption)))];exact⟨rfl,_,hr⟩)
  | (have hNB:¬((1<j - i∧s.getD i 0=48)∨9223372036854775807<zG6 (List.take (j - i) (List.drop i s))):=by
       rintro (⟨h1,h2⟩|h2)
       · have h3:((s.getD i 0).toNat:Int)=48:=by rw [h2];rfl
         omega
       · omega
     rw [if_neg hNB]
     first
     | (rw [if_pos ⟨by omega,by assumption⟩];exact⟨rfl,_,hr⟩)
     | (rw [if_neg (by rintro ⟨h1, h2⟩; omega)]
        exact⟨by rw [← hnn];rfl,by dsimp only;rw [hlen,show i+(j - i)=j by omega];exact hr⟩))
abbrev jI4 (k:Int) (t:List UInt8) (wd a:Int):List Value:=[.int .u8 k,str t,.int .i64 wd,.int .i64 a]
def jK7 (s:List UInt8) (i:Nat) (fa fr:Int) (res:TokR) (k:Int) (t:List UInt8) (wd a j fa' fr':Int):Prop:=match res with
 | .tok x=>k=x.kind∧t=x.text∧wd=x.word∧a=x.at_∧j=((i+x.text.length:Nat):Int)∧fa'=fa∧fr'=fr
 | .bad rule p=>k=0∧t=[]∧wd=0∧a=0∧fa'=p∧fr'=rule
theorem jD1 {b:Nat} {s:List UInt8} {i:Nat} {fa fr:Int} {res:TokR} {v:Value} {w':World} (h:gX b s i fa fr res v w') :
    ∃ k t wd a j fa' fr',v=.agg (jI4 k t wd a).toArray∧w'.heap[b]?=some (scn s j fa' fr')∧jK7 s i fa fr res k t wd a j fa' fr':=by
 cases res with
 | tok x=>exact⟨_,_,_,_,_,_,_,h.1,h.2,rfl,rfl,rfl,rfl,rfl,rfl,rfl⟩
 | bad rule p=>obtain⟨h1,j,h2⟩:=h;exact⟨0,[],0,0,j,_,_,h1,h2,rfl,rfl,rfl,rfl,rfl,rfl⟩
theorem qT {r:List UInt8} {i rule p:Nat} (h:zK7 r i=.bad rule p):1≤rule∧rule≤4:=by
 simp only [zK7] at h
 (repeat' split at h) <;> first|(simp at h;done)|(simp at h;omega)
def gL3 (b:Nat) (s:List UInt8) (i:Nat) (v:Value) (w':World):Prop:=
 if s.length≤i+skip (s.drop i) then v=.tuple #[.agg zeroL.toArray,.bool false]∧∃ j:Int,w'.heap[b]?=some (scn s j 0 0)
 else match zK7 (s.drop (i+skip (s.drop i))) (i+skip (s.drop i)) with
  | .tok x=>v=.tuple #[.agg (kW5 x).toArray,.bool true]∧w'.heap[b]?=some (scn s ((i+skip (s.drop i)+x.text.length:Nat):Int) 0 0)
  | .bad rule p=>v=.tuple #[.agg zeroL.toArray,.bool false]∧∃ j:Int,w'.heap[b]?=some (scn s j (p:Int) (rule:Int))
set_option maxHeartbeats 1000000 in
theorem kU5 (b:Nat) (s:List UInt8) (i:Nat) (w:World) (hb:w.heap[b]?=some (scn s i 0 0)) (hi:i≤s.length) (hs:s.length≤3000000) :
    Ret Tryz.prog 142 [.pointer (some ⟨b,0,none⟩)] w fun v w'=>Chg [b] w w'∧gL3 b s i v w':=by
 refine zB [_] func142 rfl ntmps142 rfl ?_;have st:=St.init w [b];have hle:=jD4 (s.drop i);simp only [List.length_drop] at hle;replace st:=St.of1 [b] hb;refine a2 ?_;refine zA3 (zF8 (l:=[_,_,_,_]) st rfl rfl qV118 rfl ?_);intro b2 w hb2 st;refine a6 ?_;refine zA3 (zA1 [_] rfl rfl call197 rfl (kZ3 b s i _ _ _ (st.res (i:=1) rfl) hi hs) ?_);rintro _ w ⟨rfl,cw,hw⟩;replace st:=st.turn (i:=1) (r':=.blk b _) rfl rfl rfl cw (.inl (by simp)) hw;dsimp only [zA0] at st;have hi1:i+skip (List.drop i s)≤s.length:=by omega
 refine a4 ?_;refine qJ5 Tryz.mixed [Yt 0,Yt 1,Yt 2,Yt 3,Yt 4,Yt 5,Yt 6,Yt 7,Yt 8,Yt 9] st ?_;clear st;intro w st hS;refine pm hS ?_;refine pnk hS ?_;refine pfz hS 1 qU178 qZ3 ?_;refine pld hS 1 qA3 ?_;refine pm hS ?_;refine pnk hS ?_;refine pf0 hS qU178 qZ9 ?_;refine pld hS 1 qA9 ?_;refine zA2 rfl rfl rfl hS (fun w st=>zH8 rfl qU9) ?_;refine zA2 rfl rfl rfl hS (fun w st=>zT3 rfl rfl) ?_;refine zC6 (zA6 ?_);refine vif ?_ ?_;intro hc19;(try simp only [dn] at hc19);refine a2 ?_;refine vy (ybd (.agg #[_,_,_,_]) []) ?_;refine zA3 (zC4 st 0 [_,_,_,_] qZ118 ?_);intro w st;dsimp only [zA0,wr] at st;refine a5 ?_;refine zG3 st (.inl rfl) results142 (by exact .cell 0 rfl rfl qA118 qZ118) (.tmp rfl) ?_;refine⟨_,rfl,?_⟩;refine⟨st.chg,?_⟩;unfold gL3;rw [if_pos (by omega)];exact⟨rfl,_,st.res (i:=1) rfl⟩;intro hc19;(try simp only [dn] at hc19);refine a5 ?_;refine vy (qT7 [_] [] rfl rfl) ?_;refine a1 ?_;refine vy (qT7 [_] [] rfl rfl) ?_;refine a1 ?_;refine vy (qT7 [_] [] rfl rfl) ?_;refine vy (ybd (.agg #[_,_,_]) [(0,_),(1,_),(2,_)]) ?_;refine zA3 (zF8 (l:=[_,_,_]) st rfl rfl zeroValue219 rfl ?_);intro b4 w hb4 st;refine zA3 (zC4 st 0 [_,_,_] sizeOf219 ?_);intro w st;dsimp only [zA0,wr] at st;refine a9 ?_;refine qJ5 Tryz.mixed [Yt 0,Yt 1,Yt 2,Yt 3,Yt 4,Yt 5,Yt 6,Yt 7,Yt 8,Yt 9] st ?_;clear st;intro w st hS;refine pm hS ?_;refine pnk hS ?_;refine pf0 hS qU178 qZ9 ?_;refine pld hS 2 qA9 ?_;refine pm hS ?_;refine pnk hS ?_;refine pfz hS 1 qU178 qZ3 ?_;refine pld hS 2 qA3 ?_;refine zA2 rfl rfl rfl hS (fun w st=>zP1 (k:=_) rfl rfl qU9 rfl (by omega)) ?_;refine zA2 rfl rfl rfl hS (fun w st=>qL1 rfl) ?_;refine zC6 (zA6 (zD6 (sr ?_)));refine a1 ?_;refine zA3 (zA1 [_] rfl rfl call115 rfl (zS3 _ _) ?_);rintro _ _ ⟨rfl,rfl⟩;refine a3 ?_;refine vif ?_ ?_;intro hc37;(try simp only [dn] at hc37);refine a8 ?_;refine vy (gB0 (k:=1) rfl rfl underlying219 sizeOf141 rfl (by omega)) ?_;refine yl st 0 isAgg141 ?_;refine zA3 (zJ2 [] rfl rfl rfl call199 rfl (jD0 b s _ _ _ _ (st.res (i:=2) rfl) (by omega) hs (by assumption)) ?_)
 rotate_left
 focus
  intro hc37;(try simp only [dn] at hc37);refine a3 ?_;refine zA3 (zA1 [_] rfl rfl call113 rfl (qF3 _ _) ?_);rintro _ _ ⟨rfl,rfl⟩;refine a3 ?_;refine vif ?_ ?_;intro hc40;(try simp only [dn] at hc40);refine a8 ?_;refine vy (gB0 (k:=2) rfl rfl underlying219 sizeOf141 rfl (by omega)) ?_;refine yl st 0 isAgg141 ?_;refine zA3 (zJ2 [] rfl rfl rfl call200 rfl (kM6 b s _ _ _ _ (st.res (i:=2) rfl) (by omega) hs (by assumption) (by assumption)) ?_)
  rotate_left
  intro hc40;(try simp only [dn] at hc40);refine a6 ?_;refine vy (gB0 (k:=0) rfl rfl underlying219 sizeOf141 rfl (by omega)) ?_;refine yl st 0 isAgg141 ?_;refine zA3 (zJ2 [] rfl rfl rfl call198 rfl (jC2 b s _ _ _ _ (st.res (i:=2) rfl) (by omega) hs (by assumption) (by assumption)) ?_)
 all_goals
  rintro _ w ⟨cw,hp⟩;obtain⟨k,t,wd,a,j,fa',fr',rfl,hw,hf⟩:=jD1 hp;replace st:=st.turn (i:=2) (r':=.blk b _) rfl rfl rfl cw (.inl (by simp)) hw;dsimp only [zA0] at st;refine zA3 (zF8 (l:=[_,_,_,_]) st rfl rfl qV118 rfl ?_);intro b7 w hb7 st;refine zA3 (zC4 st 0 [_,_,_,_] qZ118 ?_);intro w st;dsimp only [zA0,wr] at st;refine a3 ?_;refine vdr Tryz.mixed [Yt 0,Yt 1,Yt 2,Yt 3,Yt 4,Yt 5,Yt 6,Nt 7,Yt 8] [.blk b7 (.cells (jI4 k t wd a).toArray 118 (0,0)),.blk b (scn s j fa' fr')] st ?_;clear st;intro w st hS;refine zA2 rfl rfl rfl hS (fun w st=>zS7 (vs:=[_,_,_,_]) st 0 rfl qA118 qZ118 rfl rfl) ?_;refine pm hS ?_;refine pnk hS ?_;refine pfz hS 2 qU178 qZ29 ?_;refine zA2 rfl rfl rfl hS (fun w st=>zU9 (k:=1) rfl underlying29 rfl rfl qZ3 rfl) ?_;refine pld hS 1 qA3 ?_;refine zA2 rfl rfl rfl hS (fun w st=>zK5 rfl rfl) ?_;refine zD0 rfl (zC4 st 2 [_,_,_,_] qZ118 ?_);intro w st;dsimp only [zA0,wr] at st;refine zA9 st.dr ?_;intro hS;refine zA2 rfl rfl rfl hS (fun w st=>qL1 rfl) ?_;refine zC6 (zA6 (zA8 ?_));refine zG3 st (.inl rfl) results142 (by exact .cell 2 rfl rfl qA118 qZ118) (.tmp rfl) ?_;refine⟨_,rfl,?_⟩;refine⟨st.chg,?_⟩;unfold gL3;rw [if_neg (by omega)];have hr:=st.res (i:=3) rfl
  cases hR:zK7 (List.drop (i+skip (List.drop i s)) s) (i+skip (List.drop i s)) with
  | tok x=>rw [hR] at hf;obtain⟨rfl,rfl,rfl,rfl,rfl,rfl,rfl⟩:=hf;exact⟨rfl,hr⟩
  | bad rule p=>
   have hb':=qT hR
   rw [hR] at hf;obtain⟨rfl,rfl,rfl,rfl,rfl,rfl⟩:=hf
   refine⟨?_,_,hr⟩
   rw [show (decide ((rule:Int)=0))=false from by simp;omega]
theorem Tryz.info118:Tryz.prog.info? 118=some Tryz.t118:=by kernel_rfl
def qE5 (l:List Tok):List Value:=l.flatMap kW5
theorem gD2 (l:List Tok) (t:Tok):qE5 (l++[t])=qE5 l++kW5 t:=by simp [qE5]
def NxRel (s:List UInt8) (i:Nat) (k:Int) (t:List UInt8) (wd a:Int) (ok:Bool) (j fa fr:Int):Prop:=
 (ok=true∧∃ x:Tok,i+skip (s.drop i)<s.length∧zK7 (s.drop (i+skip (s.drop i))) (i+skip (s.drop i))=.tok x∧k=x.kind∧t=x.text∧wd=x.word∧a=x.at_∧j=((i+skip (s.drop i)+x.text.length:Nat):Int)∧fa=0∧fr=0)∨
 (ok=false∧s.length≤i+skip (s.drop i)∧fa=0∧fr=0)∨
 (ok=false∧∃ rule p:Nat,i+skip (s.drop i)<s.length∧zK7 (s.drop (i+skip (s.drop i))) (i+skip (s.drop i))=.bad rule p∧fa=p∧fr=rule)
theorem jF2 {b:Nat} {s:List UInt8} {i:Nat} {v:Value} {w':World} (h:gL3 b s i v w') :
    ∃ k t wd a ok j fa fr,v=.tuple [.agg (jI4 k t wd a).toArray,.bool ok].toArray∧w'.heap[b]?=some (scn s j fa fr)∧NxRel s i k t wd a ok j fa fr:=by
 unfold gL3 at h;split at h;rename_i hle;obtain⟨h1,j,h2⟩:=h;exact⟨0,[],0,0,false,j,0,0,h1,h2,.inr (.inl ⟨rfl,hle,rfl,rfl⟩)⟩;rename_i hlt;split at h;rename_i x hx;obtain⟨h1,h2⟩:=h;exact⟨_,_,_,_,true,_,0,0,h1,h2,.inl ⟨rfl,x,by omega,hx,rfl,rfl,rfl,rfl,rfl,rfl,rfl⟩⟩;rename_i rule p hx;obtain⟨h1,j,h2⟩:=h;exact⟨0,[],0,0,false,j,_,_,h1,h2,.inr (.inr ⟨rfl,rule,p,by omega,hx,rfl,rfl⟩)⟩
def gU0 (s:List UInt8) (w:World) (v:Value) (w':World):Prop:=
 Chg [] w w'∧∃ oa cap,v=.tuple [.slice oa (zJ s).1.length cap,.int .i64 ((zJ s).2.1:Int),.agg [.int .i64 ((zJ s).2.2.1:Int),.int .i64 ((zJ s).2.2.2:Int)].toArray].toArray∧
  w'.ownsRow w.heap.size 118 4 (.slice oa (zJ s).1.length cap) (zJ s).1.length (qE5 (zJ s).1)
set_option maxHeartbeats 1000000 in
theorem kY8 (s:List UInt8) (w:World):Ret Tryz.prog 75 [str s] w (gU0 s w):=by
 refine zB [_] func75 rfl ntmps75 rfl ?_;have st:=St.init w [];refine a4 ?_;refine zA3 (zF8 (l:=[_,_]) st rfl rfl qV29 rfl ?_);intro b4 w hb4 st;refine a6 ?_;refine vy (zH8 rfl qU9) ?_;refine a3 ?_;refine vif ?_ ?_;intro hc11;(try simp only [dn] at hc11);refine a2 ?_;refine vy (ybd (.agg #[_,_]) []) ?_;refine a2 ?_;refine zA3 (zC4 st 0 [_,_] qZ29 ?_);intro w st;dsimp only [zA0,wr] at st;refine a4 ?_;refine zL0 st (.inl rfl) results75 (.tmp rfl) (.tmp rfl) (by exact .cell 0 rfl rfl qA29 qZ29) ?_;refine⟨_,rfl,?_⟩;have e:zJ s=([],4,0,0):=by unfold zJ;rw [if_pos (by omega)]
 refine⟨st.chg,none,0,?_,?_⟩;rw [e];rfl;rw [e];exact World.ownsRow_nil _ _ _ _;intro hc11;(try simp only [dn] at hc11);replace st:=st.ownNil 118 4;refine a5 ?_;refine vy (ybd (.agg #[_,_,_,_]) [(0,_)]) ?_;refine zA3 (zT2 (l:=[_,_,_,_]) st rfl rfl rfl rfl ?_);intro b15 w hb15 st;refine a10 ?_;refine zC (w0:=_) (M:=_) (fun (x:List Tok×Nat×Option Addr×Nat)=>[(4,.pointer (some ⟨b4,0,none⟩)),(5,.pointer (some ⟨b15,0,none⟩)),(6,.slice x.2.2.1 x.1.length x.2.2.2)]) (fun x=>[.blk b15 (scn s x.2.1 0 0),.own (.slice x.2.2.1 x.1.length x.2.2.2) 118 4 x.1.length (qE5 x.1),.blk b4 (.cells [.int .i64 0,.int .i64 0].toArray 29 (0,0))]) (fun x _=>x.2.1≤s.length∧x.1.length≤x.2.1∧(zI s).1=x.1++(zY3 (s.drop x.2.1) x.2.1).1∧(zI s).2=(zY3 (s.drop x.2.1) x.2.1).2) (fun x=>s.length - x.2.1) ([],0,none,0) ⟨rfl,rfl,rfl,trivial⟩ st ⟨by simp,by simp,by simp [qI],by simp [qI]⟩ ?_;rintro ⟨l,i,oa,cap⟩ w ⟨hi,hli,hf1,hf2⟩ st;dsimp only at *;refine a4 ?_;refine zA3 (zA1 [_] rfl rfl call142 rfl (kU5 b15 s i _ (st.res (i:=0) rfl) hi (by omega)) ?_);rintro _ w ⟨cw,hp⟩;obtain⟨k,t,wd,a,ok,j,fa,fr,rfl,hw,hrel⟩:=jF2 hp;replace st:=st.turn (i:=0) (r':=.blk b15 _) rfl rfl rfl cw (.inr (by assumption)) hw;dsimp only [zA0] at st;refine a3 ?_;refine zA3 (zF8 (l:=[_,_,_,_]) st rfl rfl qV118 rfl ?_);intro b7 w hb7 st;refine zA3 (zC4 st 0 [_,_,_,_] qZ118 ?_);intro w st;dsimp only [zA0,wr] at st;refine a10 ?_;refine vif ?_ ?_;intro hc22;(try simp only [dn] at hc22);refine a11 ?_;refine yfz 2 qU178 qZ29 ?_;refine vy (zU9 (k:=1) rfl underlying29 rfl rfl qZ3 rfl) ?_;refine yl st 1 qA3 ?_;refine a3 ?_;refine vif ?_ ?_;intro hc32;(try simp only [dn] at hc32);refine a1 ?_;refine vdr Tryz.mixed [Yt 0,Yt 1,Yt 2,Yt 3,Yt 4,Yt 5,Nt 6] [.blk b15 (scn s j fa fr)] st ?_;clear st;intro w st hS;refine pm hS ?_;refine pnk hS ?_;refine pfz hS 2 qU178 qZ29 ?_;refine zA2 rfl rfl rfl hS (fun w st=>zS7 (vs:=[_,_]) st 0 rfl qA29 qZ29 rfl rfl) ?_;(iterate 2 refine zA2 rfl rfl rfl hS (fun w st=>qL1 rfl) ?_);refine zD0 rfl (zC4 st 3 [_,_] qZ29 ?_);intro w st;dsimp only [zA0,wr] at st;refine zA9 st.dr ?_;intro hS;refine zC6 (zA6 (zA8 (zA ?_)));refine zL0 st (.inl rfl) results75 (.tmp rfl) (.tmp rfl) (by exact .cell 3 rfl rfl qA29 qZ29) ?_;refine⟨_,rfl,?_⟩;rcases hrel with ⟨h,_⟩|⟨_,_,_,h⟩|⟨_,rule,p,hlt,hx,rfl,rfl⟩
 simp [h] at hc22;exact absurd h hc32;have hsc:=qB1 (r:=s.drop i) (i:=i) (by simp;omega) (by rw [List.drop_drop];exact hx);have e:zJ s=([],20,p,rule):=by unfold zJ;rw [if_neg (by omega),hf2,hsc]
 refine⟨st.chg,none,0,?_,?_⟩;rw [e];rfl;rw [e];exact World.ownsRow_nil _ _ _ _;intro hc32;(try simp only [dn] at hc32);refine a5 ?_;refine vy (ybd (.agg #[_,_]) []) ?_;refine a2 ?_;refine zA3 (zC4 st 3 [_,_] qZ29 ?_);intro w st;dsimp only [zA0,wr] at st;refine a3 ?_;refine zL0 st (.inl rfl) results75 (.tmp rfl) (.tmp rfl) (by exact .cell 3 rfl rfl qA29 qZ29) ?_;refine⟨_,rfl,?_⟩;rcases hrel with ⟨h,_⟩|⟨_,hle,_,h⟩|⟨_,rule,p,hlt,hx,rfl,rfl⟩
 simp [h] at hc22;have hsc:=zW3 (r:=s.drop i) (i:=i) (by simp;omega);have e:zJ s=(l,0,0,0):=by unfold zJ;rw [if_neg (by omega),hf2,hsc,hf1,hsc];simp
 refine⟨st.chg,oa,cap,?_,?_⟩;rw [e];rfl;rw [e];exact st.res (i:=2) rfl;have:=qT hx;omega;intro hc22;(try simp only [dn] at hc22);refine a4 ?_;refine yla st 0 [_,_,_,_] qA118 qZ118 ?_;refine zA3 (zI4 (l:=[_,_,_,_]) st rfl rfl rfl rfl qU89 qZ118 rfl rfl rfl qV118 ?_);intro b25 w hb25 st;refine zA3 (qE3 (bytes:=40) st 3 0 rfl rfl rfl rfl rfl rfl qU89 Tryz.info118 rfl rfl rfl rfl rfl (by simp) rfl rfl (by unfold maxLen;omega) (by omega) ?_);intro oa26 cap26 w st;dsimp only [zA0] at st;refine a3 ?_;rcases hrel with ⟨_,x,hlt,hx,rfl,rfl,rfl,rfl,rfl,rfl,rfl⟩|⟨h,_⟩|⟨h,_⟩
 have hx1:=qP0 hx;have hxl:x.text.length≤s.length - (i+skip (List.drop i s)):=by have h:=congrArg List.length hx1.2.1;simp at h;omega
 have hsc:=zX8 (r:=s.drop i) (i:=i) (by simp;omega) (by rw [List.drop_drop];exact hx);rw [List.drop_drop,← Nat.add_assoc] at hsc;refine zA7 (l++[x],i+skip (List.drop i s)+x.text.length,oa26,cap26) ⟨rfl,rfl,by simp only [List.length_append,List.length_cons,List.length_nil];rfl,trivial⟩ ?_ ⟨by dsimp only;omega,by simp;omega,?_,?_⟩ (by dsimp only;omega);simp only [List.length_append,List.length_cons,List.length_nil,gD2];exact st.dr;rw [hf1,hsc];simp;rw [hf2,hsc];simp [h] at hc22;simp [h] at hc22
end Go.Proofs.YtnmhlpnapgojjaaGreatDoor
/- The tokens of a text: how many,and of what kinds. -/
namespace ParS
open Sx LexS
theorem jE0 {l:List UInt8} {n:Nat} (h:kZ l=some n):n≤9223372036854775807:=by
  unfold kZ at h
  split at h
  · cases h
  · rename_i hc
    cases h
    rw [not_or,not_or,not_or] at hc
    omega
theorem kQ6:∀ (T:List Tok) (r:List UInt8) (i:Nat) (f:Option (Nat×Nat)),zY3 r i=(T,f)→T.length≤r.length∧∀ t∈T,(t.kind=1→zH4 t.text=true)∧t.word≤9223372036854775807∧t.at_≤i+r.length
  | [],r,i,f,h=>⟨Nat.zero_le _,by simp⟩
  | t::T,r,i,f,h=>by
    obtain⟨h1,h2,h3⟩:=gX1 h
    obtain⟨h4,h5,h6⟩:=qP0 h2
    obtain⟨h7,h8⟩:=kQ6 T _ _ _ h3
    rw [List.length_drop] at h7 h8
    have h9:t.text.length≤r.length - skip r:=by
      have:=congrArg List.length h5
      rw [List.length_take,List.length_drop] at this
      omega
    refine⟨by simp only [List.length_cons];omega,fun x hx=>?_⟩
    rcases List.mem_cons.1 hx with rfl|hx
    · refine⟨fun hk=>?_,?_,by omega⟩
      · rcases qO5 h2 with h|h|h|h
        · exact h.2.1
        · omega
        · omega
        · omega
      · rcases qO5 h2 with h|h|h|h
        · omega
        · omega
        · exact jE0 h.2
        · omega
    · obtain⟨a,b,c⟩:=h8 x hx
      exact⟨a,b,by omega⟩
theorem qM2 {s:List UInt8} {T:List Tok} {f:Option (Nat×Nat)} (h:zI s=(T,f)):T.length≤s.length∧∀ t∈T,(t.kind=1→zH4 t.text=true)∧t.word≤9223372036854775807∧t.at_≤s.length:=by
  rw [qI] at h
  have:=kQ6 T s 0 f h
  simpa using this
end ParS
namespace Go.Proofs.YtnmhlpnapgojjaaGreatDoor.Pq
open Go.RowKit Sx LexS ParS _root_.Go.Proofs.Tryz
theorem qP9:∀ {ts:List Tok} {j:Nat} {t:Tok},ts[j]?=some t→((qE5 ts).drop (j*4)).take 4=tkL t
 | [],j,t,h=>by simp at h
 | x::r,0,t,h=>by
  simp only [List.getElem?_cons_zero,Option.some.injEq] at h
  subst h
  simp [qE5,kW5]
 | x::r,j+1,t,h=>by
  have e:qE5 (x::r)=kW5 x++qE5 r:=by simp [qE5]
  rw [e,show (j+1)*4=(kW5 x).length+j*4 by simp [kW5];omega,← List.drop_drop,List.drop_left]
  exact qP9 (by simpa using h)
structure PNew (s:List UInt8) (n:Nat) (c:PCtx) (w':World):Prop where
 R:c.R=75
 g:c.g=0
 ts:c.ts=(zI s).1
 e:c.e=s.length
 n0:c.n0=c.pb
 own:w'.ownsRow n 118 4 (.slice c.oa c.ts.length c.cap) c.ts.length (qE5 c.ts)
 at_:PAt c c.ts w'
 le:n≤c.pb
 lt:∀ b∈obk c.oa,b<c.pb
 slen:s.length≤65536
theorem PNew.ok {s:List UInt8} {n base:Nat} {c:PCtx} {r:List Tok} {w w':World} (h:PNew s n c w) (hrow:w'.ownsRow base 118 4 (.slice c.oa c.ts.length c.cap) c.ts.length (qE5 c.ts)) (hs:SigAt 0 w') (hp:PAt c r w') (h0:0<n):PCok c w':=by
 obtain⟨hlen,hok⟩:=qM2 (s:=s) (T:=(zI s).1) (f:=(zI s).2) rfl;rw [← h.ts] at hlen hok;have:=h.slen;refine⟨?_,by rw [h.n0];exact Nat.le_refl _,by rw [h.g,h.n0];exact Nat.lt_of_lt_of_le h0 h.le,by omega,by rw [h.e];omega,by rw [h.g];exact hs,by rw [h.n0];exact Nat.le_of_lt (Array.getElem?_eq_some_iff.1 hp).1,fun t ht=>(hok t ht).2.1⟩;refine(zS8 (S:=(·<c.n0)) (gA6 hrow (fun b _=>Nat.zero_le _)) (fun b hb=>by rw [h.n0];exact h.lt b hb)).imp id fun ⟨g,off,e1,hb,hl,hc⟩=>⟨g,off,e1,hb,hl,fun j hj=>?_⟩
 have:=hc j hj;dsimp only at this;rw [qP9 (List.getElem?_eq_getElem hj)] at this;simpa only [List.getD,List.getElem?_eq_getElem hj,Option.getD_some] using this
def kK8 (s:List UInt8) (w:World) (v:Value) (w':World):Prop:=Chg [] w w'∧
 ((65536<s.length∧v=.tuple #[.pointer none,.int .i64 4,.agg #[.int .i64 0,.int .i64 0]])∨
  (s.length≤65536∧∃ rule p:Nat,(zI s).2=some (rule,p)∧v=.tuple #[.pointer none,.int .i64 30,.agg #[.int .i64 (p:Int),.int .i64 1]])∨
  (s.length≤65536∧(zI s).2=none∧∃ c,PNew s w.heap.size c w'∧v=.tuple #[.pointer (some ⟨c.pb,0,none⟩),.int .i64 0,.agg #[.int .i64 0,.int .i64 0]]))
theorem kH4 (s:List UInt8) (w:World) (hs:SigAt 0 w):Ret Tryz.prog 35 [str s] w (kK8 s w):=by
 refine zB [_] func35 rfl ntmps35 rfl ?_;have st:=St.init w [];obtain⟨w0,rfl⟩:∃ w0,w0=w:=⟨_,rfl⟩
 refine a4 ?_;refine zA3 (zF8 (l:=[_,_]) st rfl rfl qV29 rfl ?_);intro b4 w hb4 st;refine a5 ?_;refine zA3 (zA1 [_] rfl rfl call75 rfl (kY8 s _) ?_);rintro _ w ⟨cw,tq,tc,rfl,hown⟩;replace st:=St.pushOwn st cw hown;obtain⟨T,e,pl,ru,hT⟩:∃ T e pl ru,zJ s=(T,e,pl,ru):=⟨_,_,_,_,rfl⟩
 rw [hT] at st hown ⊢;dsimp only at st hown ⊢;refine a4 ?_;refine zA3 (zF8 (l:=[_,_]) st rfl rfl qV29 rfl ?_);intro b7 w hb7 st;refine a2 ?_;refine zA3 (zC4 st 0 [_,_] qZ29 ?_);intro w st;dsimp only [zA0,wr] at st;refine a15 ?_;refine vif ?_ ?_;intro hc15;(try simp only [dn] at hc15);have he:e=0:=by omega
 subst he
 have hsc:s.length≤65536∧(zI s).2=none∧T=(zI s).1:=by
  unfold zJ at hT
  split at hT
  ·cases hT
  ·rename_i hl
   split at hT
   ·rename_i hf;simp only [Prod.mk.injEq] at hT;exact⟨by omega,hf,hT.1.symm⟩
   ·cases hT
 obtain⟨hle,hfr,rfl⟩:=hsc;obtain⟨hlen,hok⟩:=qM2 (s:=s) (T:=(zI s).1) (f:=(zI s).2) rfl;refine a4 ?_;refine vy (zH8 rfl qU9) ?_;refine vy (ybd (.agg #[_,_,_]) [(0,_),(2,_)]) ?_;have hbt:∀ b∈obk tq,b<w.heap.size:=fun b hb=>(zS5 (st.res (i:=1) rfl) b hb).2
 refine zA3 (jL0 (l:=[_,_,_]) st rfl rfl rfl rfl ?_);intro b21 w hbe hb21 st;refine vy (ybd (.agg #[_,_]) []) ?_;refine a2 ?_;refine zA3 (zC4 st 3 [_,_] qZ29 ?_);intro w st;dsimp only [zA0,wr] at st;refine a5 ?_;refine zL0 st (.inl rfl) results35 (.tmp rfl) (.tmp rfl) (by exact .cell 3 rfl rfl qA29 qZ29) ?_;refine⟨_,rfl,?_⟩;refine⟨st.chg,.inr (.inr ⟨hle,hfr,⟨b21,b21,tq,tc,(zI s).1,s.length,91,75,0⟩,⟨rfl,rfl,rfl,rfl,rfl,st.res (i:=2) rfl,?_,hb21,?_,hle⟩,rfl⟩)⟩;show w.heap[b21]?=_;have h2:w.heap[b21]?=some (.cells [.slice tq (zI s).1.length tc,.int .i64 0,.int .i64 (s.length:Int)].toArray 91 (0,0)):=st.res (i:=0) rfl;rw [h2];simp [zO3];intro b hb;show b<b21;rw [hbe];exact hbt b hb;intro hc15;(try simp only [dn] at hc15);refine a6 ?_;refine vif ?_ ?_;intro hc23;(try simp only [dn] at hc23);have he:e=4:=by omega
 have hsc:65536<s.length:=by
  unfold zJ at hT
  split at hT
  ·assumption
  ·split at hT
   ·simp only [Prod.mk.injEq] at hT;omega
   ·simp only [Prod.mk.injEq] at hT;omega
 refine a3 ?_;refine vy (ybd (.agg #[_,_]) []) ?_;refine a2 ?_;refine zA3 (zC4 st 2 [_,_] qZ29 ?_);intro w st;dsimp only [zA0,wr] at st;refine a5 ?_;refine zL0 st (.inl rfl) results35 (.tmp rfl) (.tmp rfl) (by exact .cell 2 rfl rfl qA29 qZ29) ?_;refine⟨_,rfl,?_⟩;refine⟨st.chg,.inl ⟨hsc,?_⟩⟩;rw [he];rfl;intro hc23;(try simp only [dn] at hc23)
 have hsc:s.length≤65536∧(zI s).2=some (ru,pl):=by
  unfold zJ at hT
  split at hT
  ·simp only [Prod.mk.injEq] at hT;omega
  ·rename_i hl
   split at hT
   ·simp only [Prod.mk.injEq] at hT;omega
   ·rename_i hf;simp only [Prod.mk.injEq] at hT
    obtain⟨-,-,rfl,rfl⟩:=hT
    exact⟨by omega,hf⟩
 refine a4 ?_;refine vdr Tryz.mixed [Yt 0,Yt 1,Yt 2,Yt 3,Yt 4,Nt 5] [.blk b7 (.cells [.int .i64 (pl:Int),.int .i64 (ru:Int)].toArray 29 (0,0))] st ?_;clear st;intro w st hS;refine pf0 hS underlying29 qZ3 ?_;refine pld hS 0 qA3 ?_;refine zA2 rfl rfl rfl hS (fun w st=>ybd (.agg #[_,_]) [(0,_),(1,_)]) ?_;(iterate 2 refine zA2 rfl rfl rfl hS (fun w st=>qL1 rfl) ?_);refine zD0 rfl (zC4 st 2 [_,_] qZ29 ?_);intro w st;dsimp only [zA0,wr] at st;refine zA9 st.dr ?_;intro hS;refine zC6 (zA6 (zA8 ?_));refine zL0 st (.inl rfl) results35 (.tmp rfl) (.tmp rfl) (by exact .cell 2 rfl rfl qA29 qZ29) ?_;refine⟨_,rfl,?_⟩;exact⟨st.chg,.inr (.inl ⟨hsc.1,ru,pl,hsc.2,rfl⟩)⟩
abbrev pg00:List Value:=[.slice none 0 0,.slice none 0 0,.slice none 0 0]
set_option maxHeartbeats 1000000 in
theorem gS2 (b2 b3 b4 p ru:Nat) (e:Int) (w:World) (h2:w.heap[b2]?=some (.cells pg00.toArray 26 (0,0))) (h3:w.heap[b3]?=some (.cells [.int .i64 e].toArray 27 (0,0))) (h4:w.heap[b4]?=some (.cells [.int .i64 0,.int .i64 0].toArray 29 (0,0)))
    (n1:b2≠b3) (n2:b2≠b4) (n3:b3≠b4):gV3 Tryz.prog 36 [.pointer (some ⟨b2,0,none⟩),.pointer (some ⟨b3,0,none⟩),.pointer (some ⟨b4,0,none⟩)].toArray (.iface 75 (.agg #[.int .i64 (p:Int),.int .i64 (ru:Int)])) w
  (fun w'=>w'.heap[b2]?=some (.cells pg00.toArray 26 (0,0))∧w'.heap[b3]?=some (.cells [.int .i64 30].toArray 27 (0,0))∧w'.heap[b4]?=some (.cells [.int .i64 (p:Int),.int .i64 (ru:Int)].toArray 29 (0,0))∧Chg [b2,b3,b4] w w'):=by
 refine callsD_of_wpS func36 rfl fun c₀ cs hu=>?_
 have st:=St.of3 [b2,b3,b4] h2 h3 h4 n1 n2 n3;apply wpS_seq;apply wpS_region;simp [wpOpsS,go_sem,recoverD,hu,ntmps36,Exit.thenS];apply wpS_seq;apply wpS_region;simp [wpOpsS,go_sem,Exit.thenS];refine wpS_cond (t:=true) (by simp [Act.eval,Array.replicate]) ?_;simp only [if_true];refine wpS_of_wp ?_;refine kY2 (n:=(11,[])) (kn:=[(0,.pointer (some ⟨b2,0,none⟩)),(1,.pointer (some ⟨b3,0,none⟩)),(2,.pointer (some ⟨b4,0,none⟩)),(3,.iface 75 (.agg #[.int .i64 (p:Int),.int .i64 (ru:Int)]))]) (K.of (by rfl) ?_) ?_
 ·intro i v hv;simp only [find] at hv
  repeat' split at hv
  all_goals first|(rename_i hh;have hh':=Nat.eq_of_beq_eq_true hh;subst hh';cases hv;rfl)|simp at hv
 refine ddr Tryz.mixed (.take 0 (.take 1 (.two 2 4 (.take 3 (.one 4 (.one 5 (.one 6 .done)))) (.two 2 5 (.take 3 (.one 5 (.one 6 .done))) (.one 2 (.take 3 (.one 6 .done))))))) [] st ?_;clear st;intro w st hS;refine zD9 rfl rfl rfl hS (fun w st=>ybd (.agg #[_,_,_]) []) ?_;refine dm hS ?_;refine zU1 rfl rfl ?_ ?_;refine(zU6 rfl rfl (y_ta rfl qU75) ?_);refine zB2 st.dr ?_;intro hS;refine zD9 rfl rfl rfl hS (fun w st=>kS1 (vs:=[_,_]) rfl qU75 rfl rfl qA29 qZ29 rfl) ?_;refine zG rfl (zC4 st 0 [_,_,_] qZ26 ?_);intro w st;refine zB2 st.dr ?_;intro hS;refine zG rfl (est st 1 qZ27 ?_);intro w st;refine zB2 st.dr ?_;intro hS
 rotate_left
 focus
  refine(zC4 st 0 [_,_,_] qZ26 ?_);intro w st;refine zB2 st.dr ?_;intro hS;refine zU1 rfl rfl ?_ ?_;refine(zU6 rfl rfl (y_ta rfl qU75) ?_);refine zB2 st.dr ?_;intro hS;refine zD9 rfl rfl rfl hS (fun w st=>kS1 (vs:=[_,_]) rfl qU75 rfl rfl qA29 qZ29 rfl) ?_;refine zG rfl (est st 1 qZ27 ?_);intro w st;refine zB2 st.dr ?_;intro hS
  rotate_left
  refine(est st 1 qZ27 ?_);intro w st;refine zB2 st.dr ?_;intro hS;refine zG rfl (zU6 rfl rfl (y_ta rfl qU75) ?_);refine zB2 st.dr ?_;intro hS;refine zD9 rfl rfl rfl hS (fun w st=>kS1 (vs:=[_,_]) rfl qU75 rfl rfl qA29 qZ29 rfl) ?_
 all_goals
  refine zG rfl (zC4 st 2 [_,_] qZ29 ?_);intro w st;refine zB2 st.dr ?_;intro hS;refine zV ?_;intro a ha;exact⟨ha.defers,_,rfl,.tuple #[],by simp [results,results36],⟨_,rfl⟩,rfl,by first|exact⟨st.res (i:=0) rfl,st.res (i:=1) rfl,st.res (i:=2) rfl,st.chg⟩⟩
theorem gZ9 (args:List Value) (h3:args.length=3) (w:World):kM3 Tryz.prog 36 args.toArray w (fun w'=>w'=w):=by
 refine callsD_of_wpS func36 rfl fun c₀ cs hu=>?_
 obtain⟨x,y,z,rfl⟩:∃ x y z,args=[x,y,z]:=by
  match args,h3 with
  | [x,y,z],_=>exact⟨x,y,z,rfl⟩
 apply wpS_seq;apply wpS_region;simp [wpOpsS,go_sem,recoverD,hu,ntmps36,Exit.thenS];apply wpS_seq;apply wpS_region;simp [wpOpsS,go_sem,Exit.thenS];refine wpS_cond (t:=false) (by simp [Act.eval,Array.replicate]) ?_;simp only [Bool.false_eq_true,if_false];refine wpS_of_wp (wp_skip ?_);cases c₀
 simp_all [bodyPostS,results,results36]
theorem _root_.Sx.St.push2 {w w' w0:World} {M:List Nat} {hs:List Res} (st:St w0 M hs w) (c:Chg [] w w') {r q:Res} (hr:r.holds w0.heap.size w') (hq:q.holds w0.heap.size w') (hat:∀ k∈r.at?,w.heap.size≤k) (hat':∀ k∈q.at?,w.heap.size≤k) (hd:∀ k∈r.at?,k∉q.at?):St w0 M (r::q::hs) w':=by
 have st1:=st.pushR c hq hat';refine⟨st1.chg,List.pairwise_cons.2 ⟨fun x hx k hk hk'=>?_,st1.nodup⟩,fun x hx=>?_⟩;rcases List.mem_cons.1 hx with rfl|h;exact hd k hk hk';exact absurd (st.lt h hk') (by have:=hat k hk;omega);rcases List.mem_cons.1 hx with rfl|h;exact hr;exact st1.here x h
theorem _root_.Sx.St.pnew {s:List UInt8} {c:PCtx} {w w' w0:World} {M:List Nat} {hs:List Res} (st:St w0 M hs w) (ch:Chg [] w w') (h:PNew s w.heap.size c w') :
    St w0 M (.blk c.pb (.cells (zO3 c c.ts).toArray c.T (0,0))::.own (.slice c.oa c.ts.length c.cap) 118 4 c.ts.length (qE5 c.ts)::hs) w':=
 st.push2 ch h.at_ (qF7 h.own st.chg.size) (by simpa [Res.at?] using h.le) (fun k hk=>(World.ownsRow.lt h.own k (by simpa [Res.at?] using hk)).1)
  (fun k hk=>by
    simp only [Res.at?,List.mem_singleton] at hk
    subst hk
    intro hk'
    simp only [Res.at?,zE8] at hk'
    exact absurd (h.lt _ hk') (Nat.lt_irrefl _))
def ParsePost (s:List UInt8) (w:World) (v:Value) (w':World):Prop:=Chg [] w w'∧∃ vp,HP w (zE5 s).1 vp w'∧v=.tuple #[vp,.int .i64 ((zE5 s).2.1:Int),.agg #[.int .i64 ((zE5 s).2.2.1:Int),.int .i64 ((zE5 s).2.2.2:Int)]]
theorem hp_none (w0:World) (w':World):HP w0 pg0 (.agg pg00.toArray) w':=
 ⟨none,none,none,0,0,0,[],rfl,⟨none,0,none,0,none,0,[],[],[],rfl,⟨World.ownsRow_nil _ _ _ _,rfl⟩,⟨World.ownsRow_nil _ _ _ _,rfl⟩,⟨[],[],World.ownsRow_nil _ _ _ _,rfl,rfl,rfl⟩,rfl⟩,Nw.nil⟩
theorem _root_.Sx.holds_pg {tE tS tD tT base:Nat} {w:World} {q:Pg} {l:List Value} {S:List Nat} (h:PgS tE tS tD tT w q l S):(Res.tree S fun w=>PgS tE tS tD tT w q l S).holds base w:=zD2 h h.lt (fun a b h hk=>h.kept hk)
theorem kR1 {s:List UInt8} {w0 w:World} {b2 b3 b4:Nat} {f:Flt} {kn:Kn} (h2:w.heap[b2]?=some (.cells pg00.toArray 26 (0,0))) (h3:w.heap[b3]?=some (.cells [.int .i64 0].toArray 27 (0,0))) (h4:w.heap[b4]?=some (.cells [.int .i64 0,.int .i64 0].toArray 29 (0,0)))
    (n1:b2≠b3) (n2:b2≠b4) (n3:b3≠b4) (l2:w0.heap.size≤b2) (l3:w0.heap.size≤b3) (l4:w0.heap.size≤b4) (ch:Chg [] w0 w) (hpr:zE5 s=(pg0,30,f.1,f.2))
  (k2:find kn 2=some (.pointer (some ⟨b2,0,none⟩))) (k3:find kn 3=some (.pointer (some ⟨b3,0,none⟩))) (k4:find kn 4=some (.pointer (some ⟨b4,0,none⟩))) :
  PanK (21,[⟨.fn (.func 36) (List.toArray [.pointer (some ⟨b2,0,none⟩),.pointer (some ⟨b3,0,none⟩),.pointer (some ⟨b4,0,none⟩)]),#[]⟩]) kn (bodyPostD Tryz.prog Tryz.f10 fun e w'=>∃ v,e=.returned v∧ParsePost s w0 v w') (.iface 75 (.agg #[.int .i64 (f.1:Int),.int .i64 (f.2:Int)])) w:=by
 refine kP4 call36 (gS2 b2 b3 b4 f.1 f.2 _ w h2 h3 h4 n1 n2 n3) (fun w2 hc=>?_);obtain⟨g2,g3,g4,c2⟩:=hc;have st2:=St.of3 [] g2 g3 g4 n1 n2 n3;refine⟨_,qU0 st2 results10 (.cell 0 k2 rfl qA26 qZ26) (.cell1 1 k3 rfl qA27 rfl) (.cell 2 k4 rfl qA29 qZ29),_,rfl,ch.trans' c2 (by simp [l2,l3,l4]),?_⟩;rw [hpr];exact⟨_,hp_none _ _,rfl⟩
set_option maxHeartbeats 1000000 in
theorem parse_any (s:List UInt8) (w:World) (hsg:SigAt 0 w):Ret Tryz.prog 10 [str s] w (ParsePost s w):=by
 refine jF4 [_] func10 rfl ntmps10 rfl ?_;have st:=St.init w [];obtain⟨w0,rfl⟩:∃ w0,w0=w:=⟨_,rfl⟩
 have h0:0<w0.heap.size:=World.block_lt_of_cell? w0 _ (hsg 0 (by omega)).1;refine a2 ?_;refine zA3 (zF8 (l:=[_,_,_]) st rfl rfl qV26 rfl ?_);intro b2 w hb2 st;refine zA3 (zF8 (l:=[_]) st rfl rfl zeroValue27 rfl ?_);intro b3 w hb3 st;refine zA3 (zF8 (l:=[_,_]) st rfl rfl qV29 rfl ?_);intro b4 w hb4 st;refine a5 ?_;have n43:=st.bne 0 1 (by decide) rfl rfl;have n42:=st.bne 0 2 (by decide) rfl rfl;have n32:=st.bne 1 2 (by decide) rfl rfl;have n34:=Ne.symm n43;have n24:=Ne.symm n42;have n23:=Ne.symm n32;have hw1:=st.chg.size;refine zA3 (zA1 [_] rfl rfl call35 rfl (kH4 s _ (hsg.kept st.chg (by simp))) ?_);rintro _ w ⟨cw,hb⟩;rcases hb with ⟨hl,rfl⟩|⟨hl,ru,pl,hfr,rfl⟩|⟨hl,hfr,c,hn,rfl⟩
 replace st:=st.call0 cw;have hpr:zE5 s=(pg0,4,0,0):=by simp [zE5,hl]
 refine a5 ?_;refine zA3 (est st 1 qZ27 ?_);intro w st;refine zA3 (zC4 st 0 [_,_] qZ29 ?_);intro w st;refine a5 ?_;refine yl st 1 qA27 ?_;refine a3 ?_;refine vif ?_ ?_;intro hc13;refine a1 ?_;refine gX9 ?_;refine qJ5 Tryz.mixed [Yt 0,Yt 1,Yt 2,Nt 3,Nt 4,Nt 5] st ?_;clear st;intro w st hS;refine zA2 rfl rfl rfl hS (fun w st=>zS7 (vs:=[_,_,_]) st 2 rfl qA26 qZ26 rfl rfl) ?_;refine pld hS 1 qA27 ?_;refine zA2 rfl rfl rfl hS (fun w st=>zS7 (vs:=[_,_]) st 0 rfl qA29 qZ29 rfl rfl) ?_;refine zD0 rfl (zC4 st 2 [_,_,_] qZ26 ?_);intro w st;refine zA9 (by exact st) ?_;intro hS;refine zD0 rfl (est st 1 qZ27 ?_);intro w st;refine zA9 (by exact st) ?_;intro hS;refine zD0 rfl (zC4 st 0 [_,_] qZ29 ?_);intro w st;refine zA9 (by exact st) ?_;intro hS;refine zC6 ?_;refine gU6 ?_;refine a3 ?_;refine gY8 (.inl rfl) (qU0 st results10 (.cell 2 rfl rfl qA26 qZ26) (.cell1 1 rfl rfl qA27 rfl) (.cell 0 rfl rfl qA29 qZ29)) ?_;refine⟨_,rfl,st.chg,?_⟩;rw [hpr];exact⟨_,hp_none _ _,rfl⟩;intro hc13;exact absurd hc13 (by decide);replace st:=st.call0 cw;have hpr:zE5 s=(pg0,30,pl,1):=by simp [zE5,Nat.not_lt.2 hl,hfr]
 refine a5 ?_;refine zA3 (est st 1 qZ27 ?_);intro w st;refine zA3 (zC4 st 0 [_,_] qZ29 ?_);intro w st;refine a5 ?_;refine yl st 1 qA27 ?_;refine a3 ?_;refine vif ?_ ?_;intro hc13;refine a1 ?_;refine gX9 ?_;refine qJ5 Tryz.mixed [Yt 0,Yt 1,Yt 2,Nt 3,Nt 4,Nt 5] st ?_;clear st;intro w st hS;refine zA2 rfl rfl rfl hS (fun w st=>zS7 (vs:=[_,_,_]) st 2 rfl qA26 qZ26 rfl rfl) ?_;refine pld hS 1 qA27 ?_;refine zA2 rfl rfl rfl hS (fun w st=>zS7 (vs:=[_,_]) st 0 rfl qA29 qZ29 rfl rfl) ?_;refine zD0 rfl (zC4 st 2 [_,_,_] qZ26 ?_);intro w st;refine zA9 (by exact st) ?_;intro hS;refine zD0 rfl (est st 1 qZ27 ?_);intro w st;refine zA9 (by exact st) ?_;intro hS;refine zD0 rfl (zC4 st 0 [_,_] qZ29 ?_);intro w st;refine zA9 (by exact st) ?_;intro hS;refine zC6 ?_;refine gU6 ?_;refine a3 ?_;refine gY8 (.inl rfl) (qU0 st results10 (.cell 2 rfl rfl qA26 qZ26) (.cell1 1 rfl rfl qA27 rfl) (.cell 0 rfl rfl qA29 qZ29)) ?_;refine⟨_,rfl,st.chg,?_⟩;rw [hpr];exact⟨_,hp_none _ _,rfl⟩;intro hc13;exact absurd hc13 (by decide);replace st:=st.pnew cw hn
 have hpr:zE5 s=match zM6 c.e (c.ts.length+1) c.ts with | .error f=>(pg0,30,f.1,f.2) | .ok p=>(p,0,0,0):=by
  unfold zE5;rw [if_neg (by omega),hfr,hn.e,hn.ts]
  try rfl
 refine a5 ?_;refine zA3 (est st 3 qZ27 ?_);intro w st;refine zA3 (zC4 st 2 [_,_] qZ29 ?_);intro w st;refine a5 ?_;refine yl st 3 qA27 ?_;refine a3 ?_;refine vif ?_ ?_;intro hc13;exact absurd hc13 (by decide);intro hc13;refine a4 ?_;refine vy (qT7 [] [_,_,_] rfl rfl) ?_;refine zA3 (kZ5 rfl rfl rfl ?_);refine a5 ?_
 refine zA3 (jD7 [_] rfl rfl call37 rfl (kN1 c hn.R hn.g c.ts (List.suffix_refl _) _ (hn.ok (st.res (i:=1) rfl) (hsg.kept st.chg (by simp)) (st.res (i:=0) rfl) (Nat.lt_of_lt_of_le h0 hw1)) (st.res (i:=0) rfl) (c.ts.length+1) (by omega)) (by
     rintro _ w' ⟨f,hf,rfl,ch⟩
     obtain⟨o',ho'⟩:∃ o',w'.heap[c.pb]?=some o':=⟨_,Array.getElem?_eq_getElem (Nat.lt_of_lt_of_le (Array.getElem?_eq_some_iff.1 (st.res (i:=0) rfl)).1 ch.size)⟩
     have st':=St.prs (b:=c.pb) st 0 rfl ch (.inr (Nat.le_trans hw1 hn.le)) ho'
     dsimp only [zA0] at st'
     rw [show jL9 c f=.iface 75 (.agg #[.int .i64 (f.1:Int),.int .i64 (f.2:Int)]) by rw [jL9,hn.R]]
     exact kR1 (st'.res (i:=4) rfl) (st'.res (i:=3) rfl) (st'.res (i:=2) rfl) n23 n24 n34 hb2 hb3 hb4 st'.chg (by rw [hpr,hf]) rfl rfl rfl) ?_)
 rintro _ w ⟨q,hq,cw,os,ol,ot,cs,cl,ct,Sq,rfl,hT,hN⟩;have hw2:=st.chg.size;obtain⟨o',ho'⟩:∃ o',w.heap[c.pb]?=some o':=⟨_,Array.getElem?_eq_getElem (Nat.lt_of_lt_of_le (Array.getElem?_eq_some_iff.1 (st.res (i:=0) rfl)).1 cw.size)⟩
 replace st:=St.prsT (b:=c.pb) st 0 rfl cw (.inr (Nat.le_trans hw1 hn.le)) ho' (holds_pg hT) hN.2;refine vy (ybd (.agg #[_,_]) []) ?_;refine zA3 (zC4 st 5 [_,_,_] qZ26 ?_);intro w st;refine zA3 (est st 4 qZ27 ?_);intro w st;refine zA3 (zC4 st 3 [_,_] qZ29 ?_);intro w st;refine a3 ?_;refine jE2 (.inl rfl) call36 (gZ9 [.pointer (some ⟨b2,0,none⟩),.pointer (some ⟨b3,0,none⟩),.pointer (some ⟨b4,0,none⟩)] rfl _) (fun w2 e2=>?_);subst e2;refine⟨_,qU0 st results10 (.cell 5 rfl rfl qA26 qZ26) (.cell1 4 rfl rfl qA27 rfl) (.cell 3 rfl rfl qA29 qZ29),_,rfl,st.chg,?_⟩;rw [hpr,hq];dsimp only;exact⟨_,⟨os,ol,ot,cs,cl,ct,Sq,rfl,(st.res (i:=0) rfl).1,hN.le hw2⟩,rfl⟩
end Go.Proofs.YtnmhlpnapgojjaaGreatDoor.Pq
/- The names of a tree: no program in sight. -/
namespace LexS
open Sx
end LexS
/- A tree renamed: no program in sight. -/
namespace LexS
open Sx
theorem rightE_iff {e:Ex} {d:Nat}:zB9 e d=true↔d≤64∧((e.k=1∧0≤e.wd∧e.op=0∧e.nm=[]∧e.kids=[])∨(e.k=2∧zH4 e.nm=true∧e.op=0∧e.wd=0∧e.kids=[])∨
    (e.k=3∧qI9 e.op=true∧e.wd=0∧e.nm=[]∧∃ x,e.kids=[x]∧zB9 x (if x.k=4 then d+2 else d+1)=true)∨
    (e.k=4∧zP9 e.op=true∧e.wd=0∧e.nm=[]∧∃ x y,e.kids=[x,y]∧zB9 x (if inn e.op x false=true then d+1 else d)=true∧zB9 y (if inn e.op y true=true then d+1 else d)=true)):=by
  cases e with
  | mk k op wd nm kids a=>
    simp only [Ex.k,Ex.op,Ex.wd,Ex.nm,Ex.kids]
    rcases kids with _|⟨x,_|⟨y,_|⟨z,r⟩⟩⟩ <;>
    · simp only [zB9,Bool.and_eq_true,decide_eq_true_eq]
      refine and_congr_right fun _=>?_
      by_cases h1:k=1
      · subst h1;simp
      by_cases h2:k=2
      · subst h2;simp
      by_cases h3:k=3
      · subst h3;simp [and_assoc] <;> (try (intros;constructor <;> intro h <;> first|exact h|exact⟨_,rfl,h⟩|exact⟨_,_,rfl,rfl,h⟩|exact⟨_,rfl,_,rfl,h⟩|(obtain⟨_,rfl,h⟩:=h;exact h)|(obtain⟨_,_,rfl,rfl,h⟩:=h;exact h)|(obtain⟨_,rfl,_,rfl,h⟩:=h;exact h)))
      by_cases h4:k=4
      · subst h4;simp [and_assoc] <;> (try (intros;constructor <;> intro h <;> first|exact h|exact⟨_,rfl,h⟩|exact⟨_,_,rfl,rfl,h⟩|exact⟨_,rfl,_,rfl,h⟩|(obtain⟨_,rfl,h⟩:=h;exact h)|(obtain⟨_,_,rfl,rfl,h⟩:=h;exact h)|(obtain⟨_,rfl,_,rfl,h⟩:=h;exact h)))
      simp [h1,h2,h3,h4]
theorem rightX_iff {b:Bool} {e:List Ex}:zH5 b e=true↔(b=true∧∃ x,e=[x]∧zB9 x 0=true)∨(b=false∧e=[]):=by
  cases b
  · simp [zH5]
  · rcases e with _|⟨x,_|⟨y,r⟩⟩ <;> simp [zH5]
section
variable {g:Wd→Wd} {h:Int→Int}
end
end LexS
