/- A part of the proof: contracts of functions and plain laws; each theorem says its own conditions. -/
import Derived.Test.YtkhpdpenlnhbiaaGreatDoorTopLoweredK10
import Derived.Test.YtkhpdpenlnhbiaaGreatDoorTopLoweredK11
import Derived.Test.YtkhpdpenlnhbiaaGreatDoorTopLoweredK7
set_option linter.unusedVariables false
set_option linter.unusedSimpArgs false
/- A parser's statements. -/
namespace Sx
open Go Go.RowKit LexS ParS
abbrev sm00 (a:Int):List Value:=[.int .u8 0,str [],str [],.slice none 0 0,.slice none 0 0,.slice none 0 0,.int .i64 a]
def choiceP (e:Nat) (blk:List Tok→PR (List Sm)) (a:Nat) (r0:List Tok):PR Sm:=match condP e r0 with
  | .error f=>.error f
  | .ok (x,r)=>match blk r with
    | .error f=>.error f
    | .ok (b,r1)=>if isT wElse r1=true then (match blk r1.tail with
        | .error f=>.error f
        | .ok (l,r2)=>.ok (.mk 3 [] [] [x] b l (a:Int),r2))
      else .ok (.mk 3 [] [] [x] b [] (a:Int),r1)
def loopP (e:Nat) (blk:List Tok→PR (List Sm)) (a:Nat) (r0:List Tok):PR Sm:=match condP e r0 with
  | .error f=>.error f
  | .ok (x,r)=>match blk r with
    | .error f=>.error f
    | .ok (b,r1)=>.ok (.mk 4 [] [] [x] b [] (a:Int),r1)
def guardP (e:Nat) (blk:List Tok→PR (List Sm)) (a:Nat) (r0:List Tok):PR Sm:=match nameP e r0 with
  | .error f=>.error f
  | .ok (t,r)=>match blk r with
    | .error f=>.error f
    | .ok (b,r1)=>.ok (.mk 5 t.text [] [] b [] (a:Int),r1)
def printP (e:Nat) (a:Nat) (r0:List Tok):PR Sm:=match exprP e 64 r0 with
  | .error f=>.error f
  | .ok (x,r)=>match want e [59] r with
    | .error f=>.error f
    | .ok r'=>.ok (.mk 6 [] [] [x] [] [] (a:Int),r')
def skipP (e:Nat) (a:Nat) (r0:List Tok):PR Sm:=match want e [59] r0 with
  | .error f=>.error f
  | .ok r=>.ok (.mk 7 [] [] [] [] [] (a:Int),r)
theorem stmtW_eq (e:Nat) (blk:List Tok→PR (List Sm)) (ts:List Tok):stmtW e blk ts=
    if formT (here ts) wIf=true then choiceP e blk (atT e ts) ts.tail
    else if formT (here ts) wWhile=true then loopP e blk (atT e ts) ts.tail
    else if formT (here ts) wLock=true then guardP e blk (atT e ts) ts.tail
    else if formT (here ts) wPrint=true then printP e (atT e ts) ts.tail
    else if formT (here ts) wSkip=true then skipP e (atT e ts) ts.tail
    else assignP e (atT e ts) ts:=by
  unfold stmtW choiceP loopP guardP printP skipP
  have hx:∀ r,exprSemi e r=match exprP e 64 r with
      | .error f=>.error f
      | .ok (x,r)=>match want e [59] r with
        | .error f=>.error f
        | .ok r'=>.ok (x,r'):=fun r=>rfl
  split
  · rfl
  · split
    · rfl
    · split
      · rfl
      · split
        · rw [hx]
          cases exprP e 64 ts.tail with
          | error f=>rfl
          | ok p=>
            simp only
            cases want e [59] p.2 <;> rfl
        · split <;> rfl
theorem assignP_eq (e a:Nat) (ts:List Tok):assignP e a ts=match nameP e ts with
    | .error f=>.error f
    | .ok (t,r)=>match want e [61] r with
      | .error f=>.error f
      | .ok r1=>if isT wSwap r1=true then (match want e [40] r1.tail with
          | .error f=>.error f
          | .ok r2=>match nameP e r2 with
            | .error f=>.error f
            | .ok (o,r3)=>match want e [44] r3 with
              | .error f=>.error f
              | .ok r4=>match exprP e 64 r4 with
                | .error f=>.error f
                | .ok (x,r5)=>match wantL e [[41],[59]] r5 with
                  | .error f=>.error f
                  | .ok r6=>.ok (.mk 2 t.text o.text [x] [] [] (a:Int),r6))
        else match exprP e 64 r1 with
          | .error f=>.error f
          | .ok (x,r2)=>match want e [59] r2 with
            | .error f=>.error f
            | .ok r3=>.ok (.mk 1 t.text [] [x] [] [] (a:Int),r3):=by
  unfold assignP swapP exprSemi
  cases nameP e ts with
  | error f=>rfl
  | ok p=>
    simp only
    cases want e [61] p.2 with
    | error f=>rfl
    | ok r1=>
      simp only
      split
      · cases want e [40] r1.tail with
        | error f=>rfl
        | ok r2=>
          simp only
          cases nameP e r2 with
          | error f=>rfl
          | ok q=>
            simp only
            cases want e [44] q.2 with
            | error f=>rfl
            | ok r4=>
              simp only
              cases exprP e 64 r4 with
              | error f=>rfl
              | ok y=>
                simp only [wantL]
                cases want e [41] y.2 with
                | error f=>rfl
                | ok r5=>
                  simp only
                  cases want e [59] r5 <;> rfl
      · cases exprP e 64 r1 with
        | error f=>rfl
        | ok y=>
          simp only
          cases want e [59] y.2 <;> rfl
def blkP (e:Nat):Nat→List Tok→PR (List Sm)
  | 0,r=>if isT [123] r=true then fail e 3 r else fail e 2 r
  | m+1,r=>match want e [123] r with
    | .error f=>.error f
    | .ok r1=>restW (stmtP e m) (r1.length+1) r1
theorem stmtP_blk (e m:Nat):stmtP e m=stmtW e (blkP e m):=by
  cases m with
  | zero=>funext ts;rw [stmtP];rfl
  | succ m=>funext ts;rw [stmtP];rfl
def contS (st:List Tok→PR Sm) (n:Nat) (acc:List Sm) (r:List Tok):PR (List Sm):=match restW st n r with
  | .error f=>.error f
  | .ok (l,r')=>.ok (acc++l,r')
theorem contS_nil (st:List Tok→PR Sm) (n:Nat) (r:List Tok):restW st n r=contS st n [] r:=by unfold contS;cases restW st n r with|error f=>rfl|ok p=>rfl
theorem contS_end {st:List Tok→PR Sm} {n:Nat} {acc:List Sm} {r:List Tok} (h:isT [125] r=true):contS st (n+1) acc r=.ok (acc,r.tail):=by simp only [contS,restW,if_pos h,List.append_nil]
theorem contS_step {st:List Tok→PR Sm} {n:Nat} {acc:List Sm} {r:List Tok} (h:isT [125] r=false):contS st (n+1) acc r=match st r with
    | .error f=>.error f
    | .ok (s,r')=>contS st n (acc++[s]) r':=by
  simp only [contS,restW,if_neg (show ¬ isT [125] r=true by simp [h])]
  cases st r with
  | error f=>rfl
  | ok p=>
    simp only
    cases restW st n p.2 with
    | error f=>rfl
    | ok q=>simp
section
variable {tE tS:Nat} {w:World}
theorem exr_nil:ExR tE w none 0 [] []:=⟨[],[],World.ownsRow_nil _ _ _ _,rfl,rfl,rfl⟩
theorem smr_nil:SmR tE tS w none 0 [] []:=⟨[],[],World.ownsRow_nil _ _ _ _,rfl,rfl,rfl⟩
def StIn (tE tS xb:Nat) (n:Nat) (s:Sm) (w':World):Prop:=∃ oe ob ol ce cb cl Se Sb Sl,w'.heap[xb]?=some (.cells (smC s oe ob ol ce cb cl).toArray tS (0,0))∧ExR tE w' oe ce s.e Se∧SmR tE tS w' ob cb s.body Sb∧SmR tE tS w' ol cl s.els Sl∧Nw n (Se++(Sb++Sl))
theorem getF5 {v1 v2 v3 v4 v5:Value} (s:List UInt8):(s=wIf∧getF [(wIf,v1),(wWhile,v2),(wLock,v3),(wPrint,v4),(wSkip,v5)] s=some v1)∨(s=wWhile∧getF [(wIf,v1),(wWhile,v2),(wLock,v3),(wPrint,v4),(wSkip,v5)] s=some v2)∨
    (s=wLock∧getF [(wIf,v1),(wWhile,v2),(wLock,v3),(wPrint,v4),(wSkip,v5)] s=some v3)∨(s=wPrint∧getF [(wIf,v1),(wWhile,v2),(wLock,v3),(wPrint,v4),(wSkip,v5)] s=some v4)∨(s=wSkip∧getF [(wIf,v1),(wWhile,v2),(wLock,v3),(wPrint,v4),(wSkip,v5)] s=some v5)∨
    ((s≠wIf∧s≠wWhile∧s≠wLock∧s≠wPrint∧s≠wSkip)∧getF [(wIf,v1),(wWhile,v2),(wLock,v3),(wPrint,v4),(wSkip,v5)] s=none):=by
  by_cases h1:s=wIf
  · exact .inl ⟨h1,by simp [getF,h1]⟩
  by_cases h2:s=wWhile
  · exact .inr (.inl ⟨h2,by subst h2;simp [getF,h1]⟩)
  by_cases h3:s=wLock
  · exact .inr (.inr (.inl ⟨h3,by subst h3;simp [getF,h1,h2]⟩))
  by_cases h4:s=wPrint
  · exact .inr (.inr (.inr (.inl ⟨h4,by subst h4;simp [getF,h1,h2,h3]⟩)))
  by_cases h5:s=wSkip
  · exact .inr (.inr (.inr (.inr (.inl ⟨h5,by subst h5;simp [getF,h1,h2,h3,h4]⟩))))
  · exact .inr (.inr (.inr (.inr (.inr ⟨⟨h1,h2,h3,h4,h5⟩,by simp [getF,h1,h2,h3,h4,h5]⟩))))
end
end Sx
namespace Sx
open Go Go.RowKit LexS ParS
section
variable {w w' w0:World} {M:List Nat} {hs:List Res}
theorem St.prs2 {b1 b2:Nat} {o1 o2 o1' o2':Obj} {q:Res} (st:St w0 M (.blk b1 o1::.blk b2 o2::hs) w) (ch:Chg [b1,b2] w w') (hm1:b1∈M∨w0.heap.size≤b1) (hm2:b2∈M∨w0.heap.size≤b2)
    (h1:w'.heap[b1]?=some o1') (h2:w'.heap[b2]?=some o2') (hq:q.holds w0.heap.size w') (hqa:∀ k∈q.at?,w.heap.size≤k):St w0 M (q::.blk b1 o1'::.blk b2 o2'::hs) w':=by
  have hne:b1≠b2:=st.bne 0 1 (by decide) rfl rfl
  have l1:b1<w.heap.size:=(Array.getElem?_eq_some_iff.1 (st.res (i:=0) rfl)).1
  have l2:b2<w.heap.size:=(Array.getElem?_eq_some_iff.1 (st.res (i:=1) rfl)).1
  have st1:=st.join (q:=.tree [b1,b2] (fun _=>True)) (fun k hk=>by
    simp only [Res.at?,List.mem_cons,List.not_mem_nil,or_false] at hk ⊢;exact hk) ⟨trivial,fun k hk=>by
      simp only [List.mem_cons,List.not_mem_nil,or_false] at hk
      rcases hk with rfl|rfl <;> assumption,fun _ _ _ _ _=>trivial⟩
  have st2:=st1.swapPush (i:=0) (r':=.tree [b1,b2] (fun _=>True)) rfl ch (fun k hk=>hk) (fun k hk=>by
      simp only [List.mem_cons,List.not_mem_nil,or_false] at hk
      rcases hk with rfl|rfl <;> assumption) (fun k hk=>hk) ⟨trivial,fun k hk=>by
      simp only [List.mem_cons,List.not_mem_nil,or_false] at hk
      rcases hk with rfl|rfl
      · exact Nat.lt_of_lt_of_le l1 ch.size
      · exact Nat.lt_of_lt_of_le l2 ch.size,fun _ _ _ _ _=>trivial⟩ hq hqa
  have st3:=st2.perm (List.Perm.swap _ _ _)
  have st4:=st3.split2 (r:=.blk b1 o1') (s:=.blk b2 o2') (fun k hk=>by
    simp only [Res.at?,List.mem_cons,List.not_mem_nil,or_false] at hk ⊢;exact .inl hk) (fun k hk=>by
    simp only [Res.at?,List.mem_cons,List.not_mem_nil,or_false] at hk ⊢;exact .inr hk) (fun k hk hk'=>by
    simp only [Res.at?,List.mem_cons,List.not_mem_nil,or_false] at hk hk';exact hne (hk.symm.trans hk')) h1 h2
  exact st4.perm ((List.Perm.cons _ (List.Perm.swap _ _ _)).trans (List.Perm.swap _ _ _))
end
theorem form_ne {t:Tok} {s s':List UInt8} (h:t.text=s') (hne:s'≠s):¬ formT t s=true:=by unfold formT;simp [h,hne]
theorem stmtW_assign {e:Nat} {blk:List Tok→PR (List Sm)} {ts:List Tok} (h:((here ts).text≠wIf∧(here ts).text≠wWhile∧(here ts).text≠wLock∧(here ts).text≠wPrint∧(here ts).text≠wSkip)∨(here ts).kind≠2) :
    stmtW e blk ts=assignP e (atT e ts) ts:=by
  have key:∀ s,(here ts).text≠s∨(here ts).kind≠2→¬ formT (here ts) s=true:=fun s h=>by
    unfold formT
    rcases h with h|h <;> simp [h]
  rw [stmtW_eq,if_neg (key _ (h.imp (·.1) id)),if_neg (key _ (h.imp (·.2.1) id)),if_neg (key _ (h.imp (·.2.2.1) id)),if_neg (key _ (h.imp (·.2.2.2.1) id)),if_neg (key _ (h.imp (·.2.2.2.2) id))]
end Sx
namespace Go.Proofs.YtkhpdpenlnhbiaaGreatDoor.Pq
open Go.RowKit Sx LexS ParS _root_.Go.Proofs.Tryz
theorem punary_any (c:PCtx) (hR:c.R=69) (hg:c.g=1):∀ (m d:Nat),d+m=64→DRead 149 c d (unaryP c.e m)
 | 0,d,h=>punary_of c hR d 0 h (fun k hk=>by omega) (fun k hk=>by omega)
 | m + 1, d, h => punary_of c hR d (m + 1) h (fun k hk => by
     obtain rfl:k=m:=by omega
     exact pexpr_of c hR hg (d+1) k (punary_any c hR hg k (d+1) (by omega))) (fun k hk=>by
     obtain rfl:k=m:=by omega
     exact punary_any c hR hg k (d+1) (by omega))
theorem pexpr_any (c:PCtx) (hR:c.R=69) (hg:c.g=1) (r:List Tok) (hr:r <:+ c.ts) (w:World) (hC:PCok c w) (hP:PAt c r w):RetP Tryz.prog 143 [.pointer (some ⟨c.pb,0,none⟩),.int .i64 0] w
    (PRes c r (exprP c.e 64 r) [c.pb] w (HE w)) (PErr c (exprP c.e 64 r) [c.pb] w):=pexpr_of c hR hg 0 64 (punary_any c hR hg 64 0 rfl) r hr w hC hP
def HX (w:World) (x:Ex) (v:Value) (w':World):Prop:=∃ oq cq Sq,v=.slice oq 1 cq∧ExR 177 w' oq cq [x] Sq∧Nw w.heap.size Sq
theorem pcond_any (c:PCtx) (hR:c.R=69) (hg:c.g=1) (r:List Tok) (hr:r <:+ c.ts) (w:World) (hC:PCok c w) (hP:PAt c r w):RetP Tryz.prog 147 [.pointer (some ⟨c.pb,0,none⟩)] w
    (PRes c r (condP c.e r) [c.pb] w (HX w)) (PErr c (condP c.e r) [c.pb] w):=by
 refine retp_of [_] Tryz.func147 rfl Tryz.ntmps147 rfl ?_;obtain⟨w0,rfl⟩:∃ w0,w0=w:=⟨_,rfl⟩
 have hP':=hP;dsimp only [PAt,pcell] at hP;have st:=St.of1 [c.pb] hP;have h20:=hC.len;have hl:=suf_len hr;have hs:=condP.eq_1 c.e r;refine a8 ?_;refine vc_e (e_bs1 (l:=[_]) st rfl rfl rfl rfl Tryz.underlying189 Tryz.sizeOf9 rfl rfl rfl Tryz.zeroValue9 ?_);intro b5 w hb5 st;refine vc_e (e_callp [_,_] rfl rfl Tryz.call99 rfl (pwant_any c [[40]] (by simp) _ _ _ _ rfl r hr _ (hC.k1 st.chg) (by exact st.rs 1) hR (st.res (i:=0) rfl) (by exact st.bne 0 1 (by decide) rfl rfl)) (by rintro _ w' ⟨f,hf,rfl,ch⟩ a ha;rw [wantL_one] at hf;exact And.intro ha (Or.inr ⟨_,rfl,f,by rw [hs,hf],rfl,st.chg.trans ch⟩)) ?_);rintro _ w ⟨r1,hx,hsfr1,hlnr1,hP1,cw⟩;rw [wantL_one] at hx;rw [hx] at hs;dsimp only at hs;replace st:=St.prs (b:=c.pb) st 1 rfl cw (.inl (.head _)) hP1;have hr1:=hsfr1.trans hr;refine a5 ?_;refine vc_e (e_callp [_,_] rfl rfl Tryz.call143 rfl (pexpr_any c hR hg r1 hr1 _ (hC.k1 st.chg) (by exact st.rs 1)) (by rintro _ w' ⟨f,hf,rfl,ch⟩ a ha;exact And.intro ha (Or.inr ⟨_,rfl,f,by rw [hs,hf],rfl,st.chg.trans ch⟩)) ?_);rintro _ w ⟨x,r2,hx,hsfr2,hlnr2,hP1,cw,ox,cx,Sx,rfl,hQ,hN⟩;have hNSx:=hN.le st.chg.size;replace st:=St.prsT (b:=c.pb) st 1 rfl cw (.inl (.head _)) hP1 (holds_ex hQ) hN.2;rw [hx] at hs;dsimp only at hs;have hr2:=hsfr2.trans hr1;refine vc_e (e_al (l:=[_,_,_,_,_,_]) st rfl rfl Tryz.zeroValue177 rfl ?_);intro b3 w hb3 st;refine vc_e (ests st 0 [_,_,_,_,_,_] Tryz.sizeOf177 ?_);intro w st;refine a5 ?_;refine vc_e (e_bs1 (l:=[_]) st rfl rfl rfl rfl Tryz.underlying189 Tryz.sizeOf9 rfl rfl rfl Tryz.zeroValue9 ?_);intro b10 w hb10 st;refine vc_e (e_callp [_,_] rfl rfl Tryz.call99 rfl (pwant_any c [[41]] (by simp) _ _ _ _ rfl r2 hr2 _ (hC.k1 st.chg) (by exact st.rs 4) hR (st.res (i:=0) rfl) (by exact st.bne 0 4 (by decide) rfl rfl)) (by rintro _ w' ⟨f,hf,rfl,ch⟩ a ha;rw [wantL_one] at hf;exact And.intro ha (Or.inr ⟨_,rfl,f,by rw [hs,hf],rfl,st.chg.trans ch⟩)) ?_);rintro _ w ⟨r3,hx,hsfr3,hlnr3,hP1,cw⟩;rw [wantL_one] at hx;rw [hx] at hs;dsimp only at hs;replace st:=St.prs (b:=c.pb) st 4 rfl cw (.inl (.head _)) hP1;have hr3:=hsfr3.trans hr2;refine a4 ?_;refine yla st 1 [_,_,_,_,_,_] Tryz.isAgg177 Tryz.sizeOf177 ?_;refine vc_e (e_bs1 (l:=[_,_,_,_,_,_]) st rfl rfl rfl rfl Tryz.underlying142 Tryz.sizeOf177 rfl rfl rfl Tryz.zeroValue177 ?_);intro b13 w hb13 st;refine a4 ?_;refine vq_ret1 st (.inl rfl) Tryz.results147 (.tmp rfl) ?_;refine .inl ⟨_,rfl,?_⟩;exact⟨x,r3,hs,hsfr3.trans (hsfr2.trans hsfr1),by simp at hlnr3 hlnr1;omega,(by exact st.rs 5),st.chg,some ⟨b13,0,none⟩,1,b13::Sx,rfl,ex_one (st.res (i:=0) rfl) (by exact(st.res (i:=3) rfl).1),Nw.app (S:=[b13]) ⟨by simp,by simpa using hb13⟩ hNSx (fun b hb hb'=>by exact st.ne (i:=0) (j:=3) (by decide) rfl rfl b hb hb')⟩
theorem pskip_any (c:PCtx) (hR:c.R=69) (hg:c.g=1) (a:Nat) (r:List Tok) (hr:r <:+ c.ts) (w:World) (hC:PCok c w) (hP:PAt c r w) (xb:Nat) (hX:w.heap[xb]?=some (.cells (sm00 (a:Int)).toArray 144 (0,0))) (hne:c.pb≠xb) (hxn:c.n0≤xb) (dv:Value):RetP Tryz.prog 142 [.pointer (some ⟨c.pb,0,none⟩),.pointer (some ⟨xb,0,none⟩),dv] w
    (PRes c r (skipP c.e a r) [c.pb,xb] w (fun s _ w'=>StIn 177 144 xb w.heap.size s w')) (PErr c (skipP c.e a r) [c.pb,xb] w):=by
 refine retp_of [_,_,_] Tryz.func142 rfl Tryz.ntmps142 rfl ?_;obtain⟨w0,rfl⟩:∃ w0,w0=w:=⟨_,rfl⟩
 have hP':=hP;dsimp only [PAt,pcell] at hP;have st:=St.of2 [c.pb,xb] hP hX hne;have KC:∀ {w'},Chg [c.pb,xb] w0 w'→PCok c w':=fun ch=>hC.k2 ch hxn
 have h20:=hC.len;have hl:=suf_len hr;have hs:=skipP.eq_1 c.e a r;refine a4 ?_;refine vy (y_fa0 rfl Tryz.underlying144 rfl rfl Tryz.sizeOf141 rfl) ?_;refine vc_e (est st 1 Tryz.sizeOf141 ?_);intro w st;refine a4 ?_;refine vc_e (e_bs1 (l:=[_]) st rfl rfl rfl rfl Tryz.underlying189 Tryz.sizeOf9 rfl rfl rfl Tryz.zeroValue9 ?_);intro b10 w hb10 st;refine vc_e (e_callp [_,_] rfl rfl Tryz.call99 rfl (pwant_any c [[59]] (by simp) _ _ _ _ rfl r hr _ (KC st.chg) (by exact st.rs 1) hR (st.res (i:=0) rfl) (by exact st.bne 0 1 (by decide) rfl rfl)) (by rintro _ w' ⟨f,hf,rfl,ch⟩ a ha;rw [wantL_one] at hf;exact And.intro ha (Or.inr ⟨_,rfl,f,by rw [hs,hf],rfl,st.chg.trans (ch.mono (by simp))⟩)) ?_);rintro _ w ⟨r1,hx,hsfr1,hlnr1,hP1,cw⟩;rw [wantL_one] at hx;rw [hx] at hs;dsimp only at hs;replace st:=St.prs (b:=c.pb) st 1 rfl cw (.inl (.head _)) hP1;have hr1:=hsfr1.trans hr;refine a1 ?_;refine vq_ret0 (.inr rfl) Tryz.results142 ?_;refine .inl ⟨_,rfl,?_⟩;exact⟨_,r1,hs,hsfr1,by simp at hlnr1;omega,(by exact st.rs 1),st.chg,none,none,none,0,0,0,[],[],[],(by exact st.rs 2),exr_nil,smr_nil,smr_nil,Nw.nil⟩
theorem pprint_any (c:PCtx) (hR:c.R=69) (hg:c.g=1) (a:Nat) (r:List Tok) (hr:r <:+ c.ts) (w:World) (hC:PCok c w) (hP:PAt c r w) (xb:Nat) (hX:w.heap[xb]?=some (.cells (sm00 (a:Int)).toArray 144 (0,0))) (hne:c.pb≠xb) (hxn:c.n0≤xb) (dv:Value):RetP Tryz.prog 141 [.pointer (some ⟨c.pb,0,none⟩),.pointer (some ⟨xb,0,none⟩),dv] w
    (PRes c r (printP c.e a r) [c.pb,xb] w (fun s _ w'=>StIn 177 144 xb w.heap.size s w')) (PErr c (printP c.e a r) [c.pb,xb] w):=by
 refine retp_of [_,_,_] Tryz.func141 rfl Tryz.ntmps141 rfl ?_;obtain⟨w0,rfl⟩:∃ w0,w0=w:=⟨_,rfl⟩
 have hP':=hP;dsimp only [PAt,pcell] at hP;have st:=St.of2 [c.pb,xb] hP hX hne;have KC:∀ {w'},Chg [c.pb,xb] w0 w'→PCok c w':=fun ch=>hC.k2 ch hxn
 have h20:=hC.len;have hl:=suf_len hr;have hs:=printP.eq_1 c.e a r;refine a5 ?_;refine vc_e (e_callp [_,_] rfl rfl Tryz.call143 rfl (pexpr_any c hR hg r hr _ (KC st.chg) (by exact st.rs 0)) (by rintro _ w' ⟨f,hf,rfl,ch⟩ a ha;exact And.intro ha (Or.inr ⟨_,rfl,f,by rw [hs,hf],rfl,st.chg.trans (ch.mono (by simp))⟩)) ?_);rintro _ w ⟨x,r1,hx,hsfr1,hlnr1,hP1,cw,ox,cx,Sx,rfl,hQ,hN⟩;have hNSx:=hN.le st.chg.size;replace st:=St.prsT (b:=c.pb) st 0 rfl cw (.inl (.head _)) hP1 (holds_ex hQ) hN.2;rw [hx] at hs;dsimp only at hs;have hr1:=hsfr1.trans hr;refine vc_e (e_bs1 (l:=[_,_,_,_,_,_]) st rfl rfl rfl rfl Tryz.underlying142 Tryz.sizeOf177 rfl rfl rfl Tryz.zeroValue177 ?_);intro b10 w hb10 st;have hE:=ex_one (st.res (i:=0) rfl) (st.res (i:=1) rfl).1;have hNe:Nw w0.heap.size (b10::Sx):=Nw.app (S:=[b10]) ⟨by simp,by simpa using hb10⟩ hNSx (fun b hb hb'=>st.ne (i:=0) (j:=1) (by decide) rfl rfl b hb hb')
 replace st:=st.join (q:=.tree (b10::Sx) fun w=>ExR 177 w (some ⟨b10,0,none⟩) 1 [x] (b10::Sx)) (fun k hk=>by
   rcases List.mem_cons.1 hk with rfl|hk
   · exact .inl (.head _)
   · exact .inr hk) (holds_ex hE)
 refine a1 ?_;refine vy (y_fa0 rfl Tryz.underlying144 rfl rfl Tryz.sizeOf141 rfl) ?_;refine vc_e (est st 2 Tryz.sizeOf141 ?_);intro w st;refine a1 ?_;refine yfz 3 Tryz.underlying144 Tryz.sizeOf142 ?_;refine vc_e (est st 2 Tryz.sizeOf142 ?_);intro w st;refine a4 ?_;refine vc_e (e_bs1 (l:=[_]) st rfl rfl rfl rfl Tryz.underlying189 Tryz.sizeOf9 rfl rfl rfl Tryz.zeroValue9 ?_);intro b16 w hb16 st;refine vc_e (e_callp [_,_] rfl rfl Tryz.call99 rfl (pwant_any c [[59]] (by simp) _ _ _ _ rfl r1 hr1 _ (KC st.chg) (by exact st.rs 2) hR (st.res (i:=0) rfl) (by exact st.bne 0 2 (by decide) rfl rfl)) (by rintro _ w' ⟨f,hf,rfl,ch⟩ a ha;rw [wantL_one] at hf;exact And.intro ha (Or.inr ⟨_,rfl,f,by rw [hs,hf],rfl,st.chg.trans (ch.mono (by simp))⟩)) ?_);rintro _ w ⟨r2,hx,hsfr2,hlnr2,hP1,cw⟩;rw [wantL_one] at hx;rw [hx] at hs;dsimp only at hs;replace st:=St.prs (b:=c.pb) st 2 rfl cw (.inl (.head _)) hP1;have hr2:=hsfr2.trans hr1;refine a1 ?_;refine vq_ret0 (.inr rfl) Tryz.results141 ?_;refine .inl ⟨_,rfl,?_⟩;exact⟨_,r2,hs,hsfr2.trans hsfr1,by simp at hlnr2;omega,(by exact st.rs 2),st.chg,some ⟨b10,0,none⟩,none,none,1,0,0,b10::Sx,[],[],(by exact st.rs 3),(by exact(st.res (i:=1) rfl).1),smr_nil,smr_nil,by simpa using hNe⟩
set_option maxHeartbeats 1000000 in
theorem passign_any (c:PCtx) (hR:c.R=69) (hg:c.g=1) (a:Nat) (r:List Tok) (hr:r <:+ c.ts) (w:World) (hC:PCok c w) (hP:PAt c r w) (xb:Nat) (hX:w.heap[xb]?=some (.cells (sm00 (a:Int)).toArray 144 (0,0))) (hne:c.pb≠xb) (hxn:c.n0≤xb):RetP Tryz.prog 131 [.pointer (some ⟨c.pb,0,none⟩),.pointer (some ⟨xb,0,none⟩)] w
    (PRes c r (assignP c.e a r) [c.pb,xb] w (fun s _ w'=>StIn 177 144 xb w.heap.size s w')) (PErr c (assignP c.e a r) [c.pb,xb] w):=by
 refine retp_of [_,_] Tryz.func131 rfl Tryz.ntmps131 rfl ?_;obtain⟨w0,rfl⟩:∃ w0,w0=w:=⟨_,rfl⟩
 have hP':=hP;dsimp only [PAt,pcell] at hP;have st:=St.of2 [c.pb,xb] hP hX hne;have KC:∀ {w'},Chg [c.pb,xb] w0 w'→PCok c w':=fun ch=>hC.k2 ch hxn
 have h20:=hC.len;have hl:=suf_len hr;have hs:=assignP_eq c.e a r;refine a5 ?_;refine vc_e (e_callp [_] rfl rfl Tryz.call102 rfl (pname_any c hR r hr _ (KC st.chg) (by exact st.rs 0)) (by rintro _ w' ⟨f,hf,rfl,ch⟩ a ha;exact And.intro ha (Or.inr ⟨_,rfl,f,by rw [hs,hf],rfl,st.chg.trans (ch.mono (by simp))⟩)) ?_);rintro _ w ⟨t,r1,hx,hsf,hln,hP1,cw,rfl⟩;replace st:=St.prs (b:=c.pb) st 0 rfl cw (.inl (.head _)) hP1;rw [hx] at hs;dsimp only at hs;have hr1:=hsf.trans hr;have hsfr1:=hsf;have hlnr1:=hln;refine vy (y_fld rfl Tryz.underlying64 rfl rfl Tryz.isAgg9 rfl) ?_;refine a1 ?_;refine vy (y_fa0 rfl Tryz.underlying144 rfl rfl Tryz.sizeOf141 rfl) ?_;refine vc_e (est st 1 Tryz.sizeOf141 ?_);intro w st;refine a1 ?_;refine yfz 1 Tryz.underlying144 Tryz.sizeOf9 ?_;refine vc_e (est st 1 Tryz.sizeOf9 ?_);intro w st;refine a5 ?_;refine vc_e (e_bs1 (l:=[_]) st rfl rfl rfl rfl Tryz.underlying189 Tryz.sizeOf9 rfl rfl rfl Tryz.zeroValue9 ?_);intro b14 w hb14 st;refine vc_e (e_callp [_,_] rfl rfl Tryz.call99 rfl (pwant_any c [[61]] (by simp) _ _ _ _ rfl r1 hr1 _ (KC st.chg) (by exact st.rs 1) hR (st.res (i:=0) rfl) (by exact st.bne 0 1 (by decide) rfl rfl)) (by rintro _ w' ⟨f,hf,rfl,ch⟩ a ha;rw [wantL_one] at hf;exact And.intro ha (Or.inr ⟨_,rfl,f,by rw [hs,hf],rfl,st.chg.trans (ch.mono (by simp))⟩)) ?_);rintro _ w ⟨r2,hx,hsfr2,hlnr2,hP1,cw⟩;rw [wantL_one] at hx;rw [hx] at hs;dsimp only at hs;replace st:=St.prs (b:=c.pb) st 1 rfl cw (.inl (.head _)) hP1;have hr2:=hsfr2.trans hr1;refine a6 ?_;refine vc_e (e_call [_,_] rfl rfl Tryz.call36 rfl (ptake_any c wSwap r2 hr2 _ (KC st.chg) (by exact st.rs 1)) ?_);rintro _ w ⟨rfl,hP1,cw⟩;replace st:=St.prs (b:=c.pb) st 1 rfl cw (.inl (.head _)) hP1;refine a3 ?_;refine vif ?_ ?_;intro hc18;have hF:isT wSwap r2=false:=by simpa using hc18
 simp only [hF,Bool.false_eq_true,if_false] at st hs;refine a4 ?_;refine vc_e (e_callp [_,_] rfl rfl Tryz.call143 rfl (pexpr_any c hR hg r2 hr2 _ (KC st.chg) (by exact st.rs 1)) (by rintro _ w' ⟨f,hf,rfl,ch⟩ a ha;exact And.intro ha (Or.inr ⟨_,rfl,f,by rw [hs,hf],rfl,st.chg.trans (ch.mono (by simp))⟩)) ?_);rintro _ w ⟨x,r3,hx,hsfr3,hlnr3,hP1,cw,ox,cx,Sx,rfl,hQ,hN⟩;have hNSx:=hN.le st.chg.size;replace st:=St.prsT (b:=c.pb) st 1 rfl cw (.inl (.head _)) hP1 (holds_ex hQ) hN.2;rw [hx] at hs;dsimp only at hs;have hr3:=hsfr3.trans hr2;refine vc_e (e_bs1 (l:=[_,_,_,_,_,_]) st rfl rfl rfl rfl Tryz.underlying142 Tryz.sizeOf177 rfl rfl rfl Tryz.zeroValue177 ?_);intro b22 w hb22 st;have hE:=ex_one (st.res (i:=0) rfl) (st.res (i:=1) rfl).1;have hNe:Nw w0.heap.size (b22::Sx):=Nw.app (S:=[b22]) ⟨by simp,by simpa using hb22⟩ hNSx (fun b hb hb'=>st.ne (i:=0) (j:=1) (by decide) rfl rfl b hb hb')
 replace st:=st.join (q:=.tree (b22::Sx) fun w=>ExR 177 w (some ⟨b22,0,none⟩) 1 [x] (b22::Sx)) (fun k hk=>by
   rcases List.mem_cons.1 hk with rfl|hk
   · exact .inl (.head _)
   · exact .inr hk) (holds_ex hE)
 refine a1 ?_;refine yfz 3 Tryz.underlying144 Tryz.sizeOf142 ?_;refine vc_e (est st 3 Tryz.sizeOf142 ?_);intro w st;refine a5 ?_;refine vc_e (e_bs1 (l:=[_]) st rfl rfl rfl rfl Tryz.underlying189 Tryz.sizeOf9 rfl rfl rfl Tryz.zeroValue9 ?_);intro b26 w hb26 st;refine vc_e (e_callp [_,_] rfl rfl Tryz.call99 rfl (pwant_any c [[59]] (by simp) _ _ _ _ rfl r3 hr3 _ (KC st.chg) (by exact st.rs 3) hR (st.res (i:=0) rfl) (by exact st.bne 0 3 (by decide) rfl rfl)) (by rintro _ w' ⟨f,hf,rfl,ch⟩ a ha;rw [wantL_one] at hf;exact And.intro ha (Or.inr ⟨_,rfl,f,by rw [hs,hf],rfl,st.chg.trans (ch.mono (by simp))⟩)) ?_);rintro _ w ⟨r4,hx,hsfr4,hlnr4,hP1,cw⟩;rw [wantL_one] at hx;rw [hx] at hs;dsimp only at hs;replace st:=St.prs (b:=c.pb) st 3 rfl cw (.inl (.head _)) hP1;have hr4:=hsfr4.trans hr3;refine a4 ?_;refine vq_ret0 (.inl rfl) Tryz.results131 ?_;refine .inl ⟨_,rfl,?_⟩;exact⟨_,r4,hs,hsfr4.trans (hsfr3.trans (hsfr2.trans hsfr1)),by simp at hlnr4 hlnr2;omega,(by exact st.rs 3),st.chg,some ⟨b22,0,none⟩,none,none,1,0,0,b22::Sx,[],[],(by exact st.rs 4),(by exact(st.res (i:=1) rfl).1),smr_nil,smr_nil,by simpa using hNe⟩;intro hc18;have hT:isT wSwap r2=true:=by simpa using hc18
 simp only [hT,if_true] at st hs;have ht:=tail_lt (isT_ne hT);have hr3:=suf_tail hr2;refine a6 ?_;refine vy (y_fa0 rfl Tryz.underlying144 rfl rfl Tryz.sizeOf141 rfl) ?_;refine vc_e (est st 2 Tryz.sizeOf141 ?_);intro w st;refine a5 ?_;refine vc_e (e_bs1 (l:=[_]) st rfl rfl rfl rfl Tryz.underlying189 Tryz.sizeOf9 rfl rfl rfl Tryz.zeroValue9 ?_);intro b32 w hb32 st;refine vc_e (e_callp [_,_] rfl rfl Tryz.call99 rfl (pwant_any c [[40]] (by simp) _ _ _ _ rfl r2.tail hr3 _ (KC st.chg) (by exact st.rs 2) hR (st.res (i:=0) rfl) (by exact st.bne 0 2 (by decide) rfl rfl)) (by rintro _ w' ⟨f,hf,rfl,ch⟩ a ha;rw [wantL_one] at hf;exact And.intro ha (Or.inr ⟨_,rfl,f,by rw [hs,hf],rfl,st.chg.trans (ch.mono (by simp))⟩)) ?_);rintro _ w ⟨r4,hx,hsfr4,hlnr4,hP1,cw⟩;rw [wantL_one] at hx;rw [hx] at hs;dsimp only at hs;replace st:=St.prs (b:=c.pb) st 2 rfl cw (.inl (.head _)) hP1;have hr4:=hsfr4.trans hr3;refine a6 ?_;refine vc_e (e_callp [_] rfl rfl Tryz.call102 rfl (pname_any c hR r4 hr4 _ (KC st.chg) (by exact st.rs 2)) (by rintro _ w' ⟨f,hf,rfl,ch⟩ a ha;exact And.intro ha (Or.inr ⟨_,rfl,f,by rw [hs,hf],rfl,st.chg.trans (ch.mono (by simp))⟩)) ?_);rintro _ w ⟨t2,r5,hx,hsf,hln,hP1,cw,rfl⟩;replace st:=St.prs (b:=c.pb) st 2 rfl cw (.inl (.head _)) hP1;rw [hx] at hs;dsimp only at hs;have hr5:=hsf.trans hr4;have hsfr5:=hsf;have hlnr5:=hln;refine vy (y_fld rfl Tryz.underlying64 rfl rfl Tryz.isAgg9 rfl) ?_;refine a1 ?_;refine yfz 2 Tryz.underlying144 Tryz.sizeOf9 ?_;refine vc_e (est st 3 Tryz.sizeOf9 ?_);intro w st;refine a5 ?_;refine vc_e (e_bs1 (l:=[_]) st rfl rfl rfl rfl Tryz.underlying189 Tryz.sizeOf9 rfl rfl rfl Tryz.zeroValue9 ?_);intro b41 w hb41 st;refine vc_e (e_callp [_,_] rfl rfl Tryz.call99 rfl (pwant_any c [[44]] (by simp) _ _ _ _ rfl r5 hr5 _ (KC st.chg) (by exact st.rs 3) hR (st.res (i:=0) rfl) (by exact st.bne 0 3 (by decide) rfl rfl)) (by rintro _ w' ⟨f,hf,rfl,ch⟩ a ha;rw [wantL_one] at hf;exact And.intro ha (Or.inr ⟨_,rfl,f,by rw [hs,hf],rfl,st.chg.trans (ch.mono (by simp))⟩)) ?_);rintro _ w ⟨r8,hx,hsfr8,hlnr8,hP1,cw⟩;rw [wantL_one] at hx;rw [hx] at hs;dsimp only at hs;replace st:=St.prs (b:=c.pb) st 3 rfl cw (.inl (.head _)) hP1;have hr8:=hsfr8.trans hr5;refine a6 ?_;refine vc_e (e_callp [_,_] rfl rfl Tryz.call143 rfl (pexpr_any c hR hg r8 hr8 _ (KC st.chg) (by exact st.rs 3)) (by rintro _ w' ⟨f,hf,rfl,ch⟩ a ha;exact And.intro ha (Or.inr ⟨_,rfl,f,by rw [hs,hf],rfl,st.chg.trans (ch.mono (by simp))⟩)) ?_);rintro _ w ⟨x,r6,hx,hsfr6,hlnr6,hP1,cw,ox,cx,Sx,rfl,hQ,hN⟩;have hNSx:=hN.le st.chg.size;replace st:=St.prsT (b:=c.pb) st 3 rfl cw (.inl (.head _)) hP1 (holds_ex hQ) hN.2;rw [hx] at hs;dsimp only at hs;have hr6:=hsfr6.trans hr8;refine vc_e (e_bs1 (l:=[_,_,_,_,_,_]) st rfl rfl rfl rfl Tryz.underlying142 Tryz.sizeOf177 rfl rfl rfl Tryz.zeroValue177 ?_);intro b46 w hb46 st;have hE:=ex_one (st.res (i:=0) rfl) (st.res (i:=1) rfl).1
 have hNe:Nw w0.heap.size (b46::Sx):=Nw.app (S:=[b46]) ⟨by simp,by simpa using hb46⟩ hNSx (fun b hb hb'=>st.ne (i:=0) (j:=1) (by decide) rfl rfl b hb hb')
 replace st:=st.join (q:=.tree (b46::Sx) fun w=>ExR 177 w (some ⟨b46,0,none⟩) 1 [x] (b46::Sx)) (fun k hk=>by
   rcases List.mem_cons.1 hk with rfl|hk
   · exact .inl (.head _)
   · exact .inr hk) (holds_ex hE)
 refine a1 ?_;refine yfz 3 Tryz.underlying144 Tryz.sizeOf142 ?_;refine vc_e (est st 5 Tryz.sizeOf142 ?_);intro w st;refine a4 ?_;refine vc_e (e_bsn (l:=[str [41],str [59]]) (E:=9) st [(0,_),(1,_)] rfl rfl rfl (fun w=>by simp [Instr.buildSlice,run_underlying Tryz.underlying189,Tryz.sizeOf9,Tryz.zeroValue9,Instr.fill,newRow,newObj,Sem.run,go_sem]) ?_);intro b50 w hb50 st;refine vc_e (e_callp [_,_] rfl rfl Tryz.call99 rfl (pwant_any c [[41],[59]] (by simp) _ _ _ _ rfl r6 hr6 _ (KC st.chg) (by exact st.rs 5) hR (st.res (i:=0) rfl) (by exact st.bne 0 5 (by decide) rfl rfl)) (by rintro _ w' ⟨f,hf,rfl,ch⟩ a ha;exact And.intro ha (Or.inr ⟨_,rfl,f,by rw [hs,hf],rfl,st.chg.trans (ch.mono (by simp))⟩)) ?_);rintro _ w ⟨r7,hx,hsfr7,hlnr7,hP1,cw⟩;rw [hx] at hs;dsimp only at hs;replace st:=St.prs (b:=c.pb) st 5 rfl cw (.inl (.head _)) hP1;have hr7:=hsfr7.trans hr6;refine a1 ?_;refine vq_ret0 (.inr rfl) Tryz.results131 ?_;refine .inl ⟨_,rfl,?_⟩;exact⟨_,r7,hs,hsfr7.trans (hsfr6.trans (hsfr8.trans (hsfr5.trans (hsfr4.trans ((List.tail_suffix _).trans (hsfr2.trans hsfr1)))))),by simp at hlnr7 hlnr8 hlnr4 hlnr2;omega,(by exact st.rs 5),st.chg,some ⟨b46,0,none⟩,none,none,1,0,0,b46::Sx,[],[],(by exact st.rs 6),(by exact(st.res (i:=1) rfl).1),smr_nil,smr_nil,by simpa using hNe⟩
end Go.Proofs.YtkhpdpenlnhbiaaGreatDoor.Pq
