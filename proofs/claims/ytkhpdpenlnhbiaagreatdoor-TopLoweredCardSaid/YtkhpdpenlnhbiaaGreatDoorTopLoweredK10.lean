/- A part of the proof: contracts of functions and plain laws; each theorem says its own conditions. -/
import Derived.Test.YtkhpdpenlnhbiaaGreatDoorTopLoweredK7
import Derived.Test.YtkhpdpenlnhbiaaGreatDoorTopLoweredK9
import Derived.Test.YtkhpdpenlnhbiaaGreatDoorTopLoweredK3
import Derived.Test.YtkhpdpenlnhbiaaGreatDoorTopLoweredK8
set_option linter.unusedVariables false
set_option linter.unusedSimpArgs false
namespace Go.Proofs.YtkhpdpenlnhbiaaGreatDoor.Pq
open Go.RowKit Sx LexS ParS _root_.Go.Proofs.Tryz
theorem Tryz.info134:Tryz.prog.info? 134=some Tryz.t134:=by kernel_rfl
theorem pname_any (c:PCtx) (hR:c.R=69) (r:List Tok) (hr:r <:+ c.ts) (w:World) (hC:PCok c w) (hP:PAt c r w):RetP Tryz.prog 102 [.pointer (some ⟨c.pb,0,none⟩)] w
    (PRes c r (nameP c.e r) [c.pb] w fun t v _=>v=.agg (tkL t).toArray) (PErr c (nameP c.e r) [c.pb] w):=by
 refine retp_of [_] Tryz.func102 rfl Tryz.ntmps102 rfl ?_;obtain⟨w0,rfl⟩:∃ w0,w0=w:=⟨_,rfl⟩
 have hP':=hP;dsimp only [PAt,pcell] at hP;have st:=St.of1 [c.pb] hP;have h20:=hC.len;have hl:=suf_len hr;refine a2 ?_;refine vc_e (e_al (l:=[_,_,_,_]) st rfl rfl Tryz.zeroValue64 rfl ?_);intro b2 w hb2 st;refine a6 ?_;refine vc_e (e_call [_] rfl rfl Tryz.call100 rfl (phere_any c r hr _ (hC.k1 st.chg) (by exact st.rs 1)) ?_);rintro _ w ⟨rfl,cw⟩;replace st:=st.call0 cw;refine vy (y_fld rfl Tryz.underlying64 rfl rfl Tryz.isAgg62 rfl) ?_;refine a3 ?_;refine vif ?_ ?_;intro hc6;(try simp only [dn] at hc6);have hk:¬ (here r).kind=1:=by omega
 have hs:nameP c.e r=fail c.e 2 r:=by unfold nameP;rw [if_neg hk]
 refine a2 ?_;refine vc_e (e_callp [_,_] rfl rfl Tryz.call42 rfl (pfail_any c 2 r hr _ (hC.k1 st.chg) (by exact st.rs 1) hR) (by rintro _ w' ⟨rfl,ch⟩ a ha;exact And.intro ha (Or.inr ⟨_,rfl,(atT c.e r,2),by rw [hs];rfl,rfl,st.chg.trans ch.of_nil⟩)) (fun _ _ h=>h.elim));intro hc6;(try simp only [dn] at hc6);have hk:(here r).kind=1:=by omega
 have hs:nameP c.e r=.ok (here r,r.tail):=by unfold nameP;rw [if_pos hk]
 have hne:=kind_ne hk (by decide);have hlt:=tail_lt hne;refine a5 ?_;refine vc_e (e_call [_] rfl rfl Tryz.call101 rfl (pnext_any c r hr hne _ (hC.k1 st.chg) (by exact st.rs 1)) ?_);rintro _ w ⟨rfl,hP1,cw⟩;replace st:=St.prs (b:=c.pb) st 1 rfl cw (.inl (.head _)) hP1;dsimp only [setNth] at st;refine vc_e (ests st 0 [_,_,_,_] Tryz.sizeOf64 ?_);intro w st;dsimp only [setNth,wr] at st;refine a3 ?_;refine vq_ret1 st (.inl rfl) Tryz.results102 (by exact .cell 0 rfl rfl Tryz.isAgg64 Tryz.sizeOf64) ?_;refine .inl ⟨_,rfl,?_⟩;exact⟨_,_,hs,List.tail_suffix _,hlt,(by exact st.rs 1),st.chg,rfl⟩
theorem pdecl_any (c:PCtx) (hR:c.R=69) (r:List Tok) (hr:r <:+ c.ts) (w:World) (hC:PCok c w) (hP:PAt c r w):RetP Tryz.prog 39 [.pointer (some ⟨c.pb,0,none⟩)] w
    (PRes c r (declP c.e r) [c.pb] w fun d v _=>v=.agg (dcL d).toArray) (PErr c (declP c.e r) [c.pb] w):=by
 refine retp_of [_] Tryz.func39 rfl Tryz.ntmps39 rfl ?_;obtain⟨w0,rfl⟩:∃ w0,w0=w:=⟨_,rfl⟩
 have hP':=hP;dsimp only [PAt,pcell] at hP;have st:=St.of1 [c.pb] hP;have h20:=hC.len;have hl:=suf_len hr;have hs:=declP.eq_1 c.e r;refine a2 ?_;refine vc_e (e_al (l:=[_,_,_]) st rfl rfl Tryz.zeroValue134 rfl ?_);intro b2 w hb2 st;refine a5 ?_;refine vc_e (e_callp [_] rfl rfl Tryz.call102 rfl (pname_any c hR r hr _ (hC.k1 st.chg) (by exact st.rs 1)) (by rintro _ w' ⟨f,hf,rfl,ch⟩ a ha;exact And.intro ha (Or.inr ⟨_,rfl,f,by rw [hs,hf],rfl,st.chg.trans ch⟩)) ?_);rintro _ w ⟨t,r1,hx,hsf,hln,hP1,cw,rfl⟩;replace st:=St.prs (b:=c.pb) st 1 rfl cw (.inl (.head _)) hP1;rw [hx] at hs;dsimp only at hs;have hr1:=hsf.trans hr;refine vc_e (e_al (l:=[_,_,_,_]) st rfl rfl Tryz.zeroValue64 rfl ?_);intro b3 w hb3 st;refine vc_e (ests st 0 [_,_,_,_] Tryz.sizeOf64 ?_);intro w st;refine a4 ?_;refine yfz 1 Tryz.underlying64 Tryz.sizeOf9 ?_;refine yl st 0 Tryz.isAgg9 ?_;refine yfz 3 Tryz.underlying64 Tryz.sizeOf3 ?_;refine yl st 0 Tryz.isAgg3 ?_;refine vy (ybd (.agg #[_,_,_]) [(0,_),(2,_)]) ?_;refine vc_e (ests st 1 [_,_,_] Tryz.sizeOf134 ?_);intro w st;refine a3 ?_;refine vq_ret1 st (.inl rfl) Tryz.results39 (by exact .cell 1 rfl rfl Tryz.isAgg134 Tryz.sizeOf134) ?_;refine .inl ⟨_,rfl,?_⟩;exact⟨_,_,hs,hsf,hln,(by exact st.rs 2),st.chg,rfl⟩
theorem pinit_any (c:PCtx) (hR:c.R=69) (r:List Tok) (hr:r <:+ c.ts) (w:World) (hC:PCok c w) (hP:PAt c r w):RetP Tryz.prog 38 [.pointer (some ⟨c.pb,0,none⟩)] w
    (PRes c r (initP c.e r) [c.pb] w fun d v _=>v=.agg (dcL d).toArray) (PErr c (initP c.e r) [c.pb] w):=by
 refine retp_of [_] Tryz.func38 rfl Tryz.ntmps38 rfl ?_;obtain⟨w0,rfl⟩:∃ w0,w0=w:=⟨_,rfl⟩
 have hP':=hP;dsimp only [PAt,pcell] at hP;have st:=St.of1 [c.pb] hP;have h20:=hC.len;have hl:=suf_len hr;have hs:=initP.eq_1 c.e r;unfold declP at *;refine a2 ?_;refine vc_e (e_al (l:=[_,_,_]) st rfl rfl Tryz.zeroValue134 rfl ?_);intro b2 w hb2 st;refine a5 ?_;refine vc_e (e_callp [_] rfl rfl Tryz.call39 rfl (pdecl_any c hR r hr _ (hC.k1 st.chg) (by exact st.rs 1)) (by rintro _ w' ⟨f,hf,rfl,ch⟩ a ha;exact And.intro ha (Or.inr ⟨_,rfl,f,(by rw [hs];unfold declP at hf;cases hn:nameP c.e r with|error g=>rw [hn] at hf;exact hf|ok q=>rw [hn] at hf;cases hf),rfl,st.chg.trans ch⟩)) ?_);rintro _ w ⟨d,r1,hx,hsf,hln,hP1,cw,rfl⟩;replace st:=St.prs (b:=c.pb) st 1 rfl cw (.inl (.head _)) hP1;dsimp only [setNth] at st
 obtain⟨t,hn,rfl⟩:∃ t,nameP c.e r=.ok (t,r1)∧d=⟨t.text,0,(t.at_:Int)⟩:=by
  unfold declP at hx
  cases hn:nameP c.e r with
  | error g=>rw [hn] at hx;cases hx
  | ok q=>rw [hn] at hx;cases hx;exact⟨q.1,rfl,rfl⟩
 rw [hn] at hs;dsimp only at hs;have hr1:=hsf.trans hr;refine vc_e (e_al (l:=[_,_,_]) st rfl rfl Tryz.zeroValue134 rfl ?_);intro b3 w hb3 st;refine vc_e (ests st 0 [_,_,_] Tryz.sizeOf134 ?_);intro w st;dsimp only [setNth,wr] at st;refine a6 ?_;refine vc_e (e_call [_,_] rfl rfl Tryz.call36 rfl (ptake_any c [61] r1 hr1 _ (hC.k1 st.chg) (by exact st.rs 2)) ?_);rintro _ w ⟨rfl,hP1,cw⟩;replace st:=St.prs (b:=c.pb) st 2 rfl cw (.inl (.head _)) hP1;dsimp only [setNth] at st;refine a3 ?_;refine vif ?_ ?_;intro hc9;(try simp only [dn] at hc9);have hF:isT [61] r1=false:=by simpa using hc9
 simp only [hF,Bool.false_eq_true,if_false] at st hs;refine a2 ?_;refine yla st 0 [_,_,_] Tryz.isAgg134 Tryz.sizeOf134 ?_;refine vc_e (ests st 1 [_,_,_] Tryz.sizeOf134 ?_);intro w st;dsimp only [setNth,wr] at st;refine a4 ?_;refine vq_ret1 st (.inl rfl) Tryz.results38 (by exact .cell 1 rfl rfl Tryz.isAgg134 Tryz.sizeOf134) ?_;refine .inl ⟨_,rfl,?_⟩;exact⟨_,_,hs,hsf,hln,(by exact st.rs 2),st.chg,rfl⟩;intro hc9;(try simp only [dn] at hc9);have hT:isT [61] r1=true:=by simpa using hc9
 simp only [hT,if_true] at st hs;have ht:=tail_lt (isT_ne hT);have hr2:=suf_tail hr1;refine a5 ?_;refine vc_e (e_call [_,_] rfl rfl Tryz.call36 rfl (ptake_any c [45] r1.tail hr2 _ (hC.k1 st.chg) (by exact st.rs 2)) ?_);rintro _ w ⟨rfl,hP1,cw⟩;replace st:=St.prs (b:=c.pb) st 2 rfl cw (.inl (.head _)) hP1;dsimp only [setNth] at st;obtain⟨r3,hr3e⟩:∃ r3,r3=(if isT [45] r1.tail=true then r1.tail.tail else r1.tail):=⟨_,rfl⟩
 have hsf3:r3 <:+ r1.tail:=by rw [hr3e];split;exact List.tail_suffix _;exact List.suffix_refl _
 rw [← hr3e] at st hs;have hr3:=hsf3.trans hr2;unfold wordP at hs;refine a7 ?_;refine vc_e (e_call [_] rfl rfl Tryz.call100 rfl (phere_any c r3 hr3 _ (hC.k1 st.chg) (by exact st.rs 2)) ?_);rintro _ w ⟨rfl,cw⟩;replace st:=st.call0 cw;refine vy (y_fld rfl Tryz.underlying64 rfl rfl Tryz.isAgg62 rfl) ?_;refine a3 ?_;refine vif ?_ ?_;intro hc16;(try simp only [dn] at hc16);have hk:¬ (here r3).kind=3:=by omega
 rw [if_neg hk] at hs;refine a2 ?_;refine vc_e (e_callp [_,_] rfl rfl Tryz.call42 rfl (pfail_any c 2 r3 hr3 _ (hC.k1 st.chg) (by exact st.rs 2) hR) (by rintro _ w' ⟨rfl,ch⟩ a ha;exact And.intro ha (Or.inr ⟨_,rfl,(atT c.e r3,2),by rw [hs];rfl,rfl,st.chg.trans ch.of_nil⟩)) (fun _ _ h=>h.elim));intro hc16;(try simp only [dn] at hc16);have hk:(here r3).kind=3:=by omega
 rw [if_pos hk] at hs;dsimp only at hs;have hne:=kind_ne hk (by decide);have hlt:=tail_lt hne;have hle3:=hsf3.length_le;refine a5 ?_;refine vc_e (e_call [_] rfl rfl Tryz.call101 rfl (pnext_any c r3 hr3 hne _ (hC.k1 st.chg) (by exact st.rs 2)) ?_);rintro _ w ⟨rfl,hP1,cw⟩;replace st:=St.prs (b:=c.pb) st 2 rfl cw (.inl (.head _)) hP1;dsimp only [setNth] at st;refine vy (y_fld rfl Tryz.underlying64 rfl rfl Tryz.isAgg2 rfl) ?_;refine yfz 1 Tryz.underlying134 Tryz.sizeOf2 ?_;refine vc_e (est st 0 Tryz.sizeOf2 ?_);intro w st;dsimp only [setNth,wr] at st;refine a8 ?_;refine vif ?_ ?_;intro hc23;(try simp only [dn] at hc23);rw [if_pos hc23] at hs;refine a1 ?_;refine yfz 1 Tryz.underlying134 Tryz.sizeOf2 ?_;refine yl st 0 Tryz.isAgg2 ?_;refine vy (y_neg rfl (neg_i64 (here_wd hC.wd hr3))) ?_;refine yfz 1 Tryz.underlying134 Tryz.sizeOf2 ?_;refine vc_e (est st 0 Tryz.sizeOf2 ?_);intro w st;dsimp only [setNth,wr] at st;refine a1 ?_
 rotate_left
 intro hc23;(try simp only [dn] at hc23);rw [if_neg (by rw [hc23];simp)] at hs;refine a1 ?_
 all_goals
  refine a3 ?_;refine yla st 0 [_,_,_] Tryz.isAgg134 Tryz.sizeOf134 ?_;refine vc_e (ests st 1 [_,_,_] Tryz.sizeOf134 ?_);intro w st;dsimp only [setNth,wr] at st;refine a3 ?_;refine vq_ret1 st (.inl rfl) Tryz.results38 (by exact .cell 1 rfl rfl Tryz.isAgg134 Tryz.sizeOf134) ?_;refine .inl ⟨_,rfl,?_⟩;exact⟨_,_,hs,(List.tail_suffix _).trans (hsf3.trans ((List.tail_suffix _).trans hsf)),by omega,(by exact st.rs 2),st.chg,rfl⟩
def Reader (c : PCtx) (fo : FuncId) (F : List Tok → PR Dc) : Prop := ∀ (r : List Tok) (hr : r <:+ c.ts) (w : World) (hC : PCok c w) (hP : PAt c r w), RetP Tryz.prog fo [.pointer (some ⟨c.pb, 0, none⟩)] w
    (PRes c r (F r) [c.pb] w fun d v _=>v=.agg (dcL d).toArray) (PErr c (F r) [c.pb] w)
def contL (e : Nat) (one : List Tok → PR Dc) (n : Nat) (acc : List Dc) (r : List Tok) : PR (List Dc) := if isT [44] r = true then (match listP e one n r.tail with
    | .error f=>.error f
    | .ok (l,r')=>.ok (acc++l,r'))
 else match want e [59] r with
  | .error f=>.error f
  | .ok r'=>.ok (acc,r')
theorem listP_cont (e:Nat) (one:List Tok→PR Dc) (n:Nat) (ts:List Tok):listP e one (n+1) ts=match one ts with
  | .error f=>.error f
  | .ok (d,r)=>contL e one n [d] r:=by
 rw [listP]
 cases one ts with
 | error f=>rfl
 | ok q=>simp only [contL,List.singleton_append] <;> rfl
theorem contL_step (e:Nat) (one:List Tok→PR Dc) (n:Nat) (acc:List Dc) (r:List Tok) (h:isT [44] r=true):contL e one (n+1) acc r=match one r.tail with
  | .error f=>.error f
  | .ok (d,r')=>contL e one n (acc++[d]) r':=by
 rw [contL,if_pos h,listP_cont]
 cases one r.tail with
 | error f=>rfl
 | ok q=>
  by_cases hc:isT [44] q.2=true
  ·simp only [contL,if_pos hc]
   cases listP e one n q.2.tail with
   | error f=>rfl
   | ok q2=>simp
  ·simp only [contL,if_neg hc]
   cases want e [59] q.2 with
   | error f=>rfl
   | ok r2=>simp
theorem contL_end (e:Nat) (one:List Tok→PR Dc) (n:Nat) (acc:List Dc) (r:List Tok) (h:isT [44] r=false):contL e one n acc r=match want e [59] r with
  | .error f=>.error f
  | .ok r'=>.ok (acc,r'):=by rw [contL,if_neg (by simp [h])]
theorem plist_any (c:PCtx) (hR:c.R=69) (fo:FuncId) (F:List Tok→PR Dc) (hcf:∀ (az:Array Value) w,(callFunc fo az).run Tryz.prog w=.ok (.enter fo az) w) (hF:Reader c fo F) (n:Nat) (r:List Tok) (hn:r.length<n) (hr:r <:+ c.ts) (w:World) (hC:PCok c w) (hP:PAt c r w) :
    RetP Tryz.prog 37 [.pointer (some ⟨c.pb,0,none⟩),.func (.func fo) [.pointer (some ⟨c.pb,0,none⟩)].toArray #[]] w
  (PRes c r (listP c.e F n r) [c.pb] w fun ds v w'=>∃ oa cap Sq,v=.slice oa ds.length cap∧DcR 134 w' oa cap ds Sq∧Nw w.heap.size Sq) (PErr c (listP c.e F n r) [c.pb] w):=by
 obtain⟨n,rfl⟩:∃ m,n=m+1:=⟨n - 1,by omega⟩
 refine retp_of [_,_] Tryz.func37 rfl Tryz.ntmps37 rfl ?_;obtain⟨w0,rfl⟩:∃ w0,w0=w:=⟨_,rfl⟩
 have hP':=hP;dsimp only [PAt,pcell] at hP;have st:=St.of1 [c.pb] hP;have h20:=hC.len;have hl:=suf_len hr;have hs:=listP_cont c.e F n r;refine a8 ?_;refine vc_e (e_callvp [] rfl rfl rfl hcf rfl (hF r hr _ (hC.k1 st.chg) (by exact st.rs 0)) (by rintro _ w' ⟨f,hf,rfl,ch⟩ a ha;exact And.intro ha (Or.inr ⟨_,rfl,f,by rw [hs,hf],rfl,st.chg.trans ch⟩)) ?_);rintro _ w ⟨d0,r1,hx,hsf,hln,hP1,cw,rfl⟩;replace st:=St.prs (b:=c.pb) st 0 rfl cw (.inl (.head _)) hP1;dsimp only [setNth] at st;rw [hx] at hs;dsimp only at hs;have hr1:=hsf.trans hr;refine vc_e (e_bs1 (l:=[_,_,_]) st rfl rfl rfl rfl Tryz.underlying23 Tryz.sizeOf134 rfl rfl rfl Tryz.zeroValue134 ?_);intro b8 w hb8 st;replace st:=st.toOwn (len:=1) (size:=3) hb8 rfl (by unfold maxLen;omega);refine a5 ?_;refine vc_loop (w0:=w0) (M:=[c.pb]) (fun (y:Nat×List Dc×List Tok×Option Addr×Nat)=>[(0,.pointer (some ⟨c.pb,0,none⟩)),(1,.func (.func fo) [.pointer (some ⟨c.pb,0,none⟩)].toArray #[]),(5,.slice y.2.2.2.1 y.2.1.length y.2.2.2.2)]) (fun y=>[.own (.slice y.2.2.2.1 y.2.1.length y.2.2.2.2) 134 3 y.2.1.length (y.2.1.flatMap dcL),.blk c.pb (.cells (pcell c y.2.2.1).toArray c.T (0,0))]) (fun y _=>y.2.2.1 <:+ r∧y.2.2.1.length+y.2.1.length≤r.length∧y.2.2.1.length<y.1+1∧listP c.e F (n+1) r=contL c.e F y.1 y.2.1 y.2.2.1) (fun y=>y.2.2.1.length) (n,[d0],r1,_,_) ⟨rfl,rfl,rfl,trivial⟩ (by simpa [dcL] using st) ⟨hsf,by simp;omega,by dsimp only;omega,hs⟩ ?_;clear st hs;rintro ⟨m,acc,r2,oq,cq⟩ w ⟨hsf2,hl2,hm2,hs⟩ st;dsimp only at hsf2 hl2 hm2 hs st;have hr2:=hsf2.trans hr;refine a4 ?_;refine vc_e (e_call [_,_] rfl rfl Tryz.call36 rfl (ptake_any c [44] r2 hr2 _ (hC.k1 st.chg) (by exact st.rs 1)) ?_);rintro _ w ⟨rfl,hP1,cw⟩;replace st:=St.prs (b:=c.pb) st 1 rfl cw (.inl (.head _)) hP1;dsimp only [setNth] at st;refine a2 ?_;refine vif ?_ ?_;intro hc10;(try simp only [dn] at hc10);simp only [hc10,if_true] at st;have ht:=tail_lt (isT_ne hc10);have hr3:=suf_tail hr2;obtain⟨m,rfl⟩:∃ k,m=k+1:=⟨m - 1,by omega⟩
 rw [contL_step _ _ _ _ _ hc10] at hs;refine a6 ?_;refine vc_e (e_callvp [] rfl rfl rfl hcf rfl (hF r2.tail hr3 _ (hC.k1 st.chg) (by exact st.rs 1)) (by rintro _ w' ⟨f,hf,rfl,ch⟩ a ha;exact And.intro ha (Or.inr ⟨_,rfl,f,by rw [hs,hf],rfl,st.chg.trans ch⟩)) ?_);rintro _ w ⟨d1,r4,hx4,hsf4,hln4,hP1,cw,rfl⟩;replace st:=St.prs (b:=c.pb) st 1 rfl cw (.inl (.head _)) hP1;dsimp only [setNth] at st;rw [hx4] at hs;dsimp only at hs;have hr4:=hsf4.trans hr3;have h40:=hl2;have h41:=hr.length_le;refine vc_e (e_bs1 (l:=[_,_,_]) st rfl rfl rfl rfl Tryz.underlying23 Tryz.sizeOf134 rfl rfl rfl Tryz.zeroValue134 ?_);intro b14 w hb14 st;refine vc_e (e_app (bytes:=32) st 1 0 rfl rfl rfl rfl rfl rfl Tryz.underlying23 Tryz.info134 rfl rfl rfl rfl rfl (by simp) rfl rfl (by unfold maxLen;omega) (by omega) ?_);intro oaQ capQ w st;dsimp only [setNth] at st;replace st:=st.pick [1,2] rfl (by decide);refine a3 ?_;refine vq_again (m,acc++[d1],r4,oaQ,capQ)  (by refine⟨rfl,rfl,?_,trivial⟩;simp [find,put]) (by simpa [dcL] using st) ?_ ?_;exact⟨(hsf4.trans (List.tail_suffix _)).trans hsf2,by simp;omega,by dsimp only;omega,hs⟩;dsimp only;omega;intro hc10;(try simp only [dn] at hc10);simp only [hc10,Bool.false_eq_true,if_false] at st;rw [contL_end _ _ _ _ _ hc10] at hs;refine a8 ?_;refine vc_e (e_bs1 (l:=[_]) st rfl rfl rfl rfl Tryz.underlying189 Tryz.sizeOf9 rfl rfl rfl Tryz.zeroValue9 ?_);intro b17 w hb17 st;refine vc_e (e_callp [_,_] rfl rfl Tryz.call99 rfl (pwant_any c [[59]] (by simp) _ _ _ _ rfl r2 hr2 _ (hC.k1 st.chg) (by exact st.rs 2) hR (st.res (i:=0) rfl) (by exact st.bne 0 2 (by decide) rfl rfl)) (by rintro _ w' ⟨f,hf,rfl,ch⟩ a ha;rw [wantL_one] at hf;exact And.intro ha (Or.inr ⟨_,rfl,f,by rw [hs,hf],rfl,st.chg.trans ch⟩)) ?_);rintro _ w ⟨r5,hx,hsfr5,hlnr5,hP1,cw⟩;rw [wantL_one] at hx;rw [hx] at hs;dsimp only at hs;replace st:=St.prs (b:=c.pb) st 2 rfl cw (.inl (.head _)) hP1;dsimp only [setNth] at st;have hr5:=hsfr5.trans hr2;refine a9 ?_;refine vq_ret1 st (.inl rfl) Tryz.results37 (.tmp rfl) ?_;refine .inl ⟨_,rfl,?_⟩;have hown:=st.ownNw (i:=1) rfl;exact⟨_,_,hs,hsfr5.trans hsf2,by simp at hlnr5;omega,(by exact st.rs 2),st.chg,oq,cq,obk oq,rfl,⟨hown.1,rfl⟩,hown.2⟩
end Go.Proofs.YtkhpdpenlnhbiaaGreatDoor.Pq
/- A parser's trees: operators that wait;new rows of one and of two. -/
namespace Sx
open Go Go.RowKit LexS ParS
abbrev pdC (p:Pend) (oa:Option Addr) (cap:Nat):List Value:=[.int .u8 (p.1:Int),.int .i64 (p.2.1:Int),.int .u8 p.2.2.k,.int .u8 p.2.2.op,.int .i64 p.2.2.wd,str p.2.2.nm,.slice oa p.2.2.kids.length cap,.int .i64 p.2.2.a]
def PdSs (tE:Nat) (w:World):List Pend→List Value→List Nat→Prop
  | [],xs,S=>xs=[]∧S=[]
  | p::W,xs,S=>∃ oa cap S1 xr Sr,xs=xr++pdC p oa cap∧S=Sr++S1∧ExR tE w oa cap p.2.2.kids S1∧PdSs tE w W xr Sr
section
variable {tE:Nat} {w w':World}
theorem PdSs.len:∀ {W:List Pend} {xs:List Value} {S:List Nat},PdSs tE w W xs S→xs.length=W.length*8
  | [],xs,S,h=>by rw [h.1];rfl
  | p::W,xs,S,⟨oa,cap,S1,xr,Sr,e1,e2,h1,h2⟩=>by
    have:=PdSs.len h2
    rw [e1];simp;omega
theorem PdSs.lt:∀ {W:List Pend} {xs:List Value} {S:List Nat},PdSs tE w W xs S→∀ b∈S,b<w.heap.size
  | [],xs,S,h,b,hb=>by rw [h.2] at hb;simp at hb
  | p::W,xs,S,⟨oa,cap,S1,xr,Sr,e1,e2,h1,h2⟩,b,hb=>by
    rw [e2] at hb
    rcases List.mem_append.1 hb with h|h
    · exact PdSs.lt h2 b h
    · exact h1.lt b h
theorem PdSs.kept:∀ {W:List Pend} {xs:List Value} {S:List Nat},PdSs tE w W xs S→(∀ b∈S,w'.heap[b]?=w.heap[b]?)→PdSs tE w' W xs S
  | [],xs,S,h,_=>h
  | p::W,xs,S,⟨oa,cap,S1,xr,Sr,e1,e2,h1,h2⟩,hk=>by
    subst e2
    exact⟨oa,cap,S1,xr,Sr,e1,rfl,h1.kept (fun b hb=>hk b (List.mem_append.2 (.inr hb))),PdSs.kept h2 (fun b hb=>hk b (List.mem_append.2 (.inl hb)))⟩
theorem holds_pd {base:Nat} {W:List Pend} {xs:List Value} {S:List Nat} (h:PdSs tE w W xs S):(Res.tree S fun w=>PdSs tE w W xs S).holds base w:=holds_of h h.lt (fun a b h hk=>h.kept hk)
theorem loc_ex {oa:Option Addr} {cap:Nat} {es:List Ex} {S:List Nat}:Loc S fun w=>ExR tE w oa cap es S:=loc_of fun a b h hk=>h.kept hk
theorem loc_pd {W:List Pend} {xs:List Value} {S:List Nat}:Loc S fun w=>PdSs tE w W xs S:=loc_of fun a b h hk=>h.kept hk
theorem own_new {b E sz len:Nat} {l:List Value} (h:w.heap[b]?=some (.cells l.toArray E (0,0))) (hlen:l.length=len*sz) (hm:len≤maxLen):w.ownsRow 0 E sz (.slice (some ⟨b,0,none⟩) len len) len l:=by
  refine⟨hlen,.inr ⟨b,len,l.toArray,rfl,Nat.zero_le _,h,Nat.le_refl _,hm,by simpa using hlen,?_⟩⟩
  rw [← hlen]
  simp
theorem ex_one {b:Nat} {x:Ex} {ox:Option Addr} {cx:Nat} {S:List Nat} (h:w.heap[b]?=some (.cells (exC x ox cx).toArray tE (0,0))) (hx:ExR tE w ox cx x.kids S):ExR tE w (some ⟨b,0,none⟩) 1 [x] (b::S):=
  ⟨exC x ox cx,S,own_new h rfl (by simp [maxLen]),rfl,ExSs_one.2 (ExS_iff.2 ⟨ox,cx,rfl,hx⟩)⟩
theorem ex_two {b:Nat} {x y:Ex} {ox oy:Option Addr} {cx cy:Nat} {S T:List Nat} (h:w.heap[b]?=some (.cells (exC x ox cx++exC y oy cy).toArray tE (0,0))) (hx:ExR tE w ox cx x.kids S) (hy:ExR tE w oy cy y.kids T) :
    ExR tE w (some ⟨b,0,none⟩) 2 [x,y] (b::(S++T)):=
  ⟨exC x ox cx++exC y oy cy,S++T,own_new h rfl (by simp [maxLen]),rfl,(ExSs_app (a:=[x]) (b:=[y])).2 ⟨_,_,S,T,rfl,rfl,ExSs_one.2 (ExS_iff.2 ⟨ox,cx,rfl,hx⟩),ExSs_one.2 (ExS_iff.2 ⟨oy,cy,rfl,hy⟩)⟩⟩
end
section
variable {w w' w0:World} {M:List Nat} {hs:List Res}
theorem own_take {base E size n m cap:Nat} {oa:Option Addr} {xs ys:List Value} (h:w.ownsRow base E size (.slice oa n cap) n (xs++ys)) (hm:m≤n) (hx:xs.length=m*size):w.ownsRow base E size (.slice oa m cap) m xs:=by
  rcases h with ⟨hl,h⟩
  refine⟨hx,?_⟩
  rcases h with ⟨e,h0⟩|⟨g,c,cur,e,hb,hg,hnc,hcm,hcs,htake⟩
  · simp only [Value.slice.injEq] at e
    obtain⟨rfl,e2,rfl⟩:=e
    obtain rfl:m=0:=by omega
    exact .inl ⟨rfl,rfl⟩
  · simp only [Value.slice.injEq] at e
    obtain⟨rfl,-,rfl⟩:=e
    refine .inr ⟨g,cap,cur,rfl,hb,hg,by omega,hcm,hcs,?_⟩
    have h1:cur.toList.take (n*size)=xs++ys:=by simpa using htake
    have h2:m*size≤n*size:=Nat.mul_le_mul_right _ hm
    have h3:cur.toList.take (m*size)=xs:=by
      have:cur.toList.take (m*size)=(cur.toList.take (n*size)).take (m*size):=by rw [List.take_take,Nat.min_eq_left h2]
      rw [this,h1,← hx,List.take_left]
    simpa using h3
theorem own_cap {base E size n cap:Nat} {oa:Option Addr} {xs:List Value} (h:w.ownsRow base E size (.slice oa n cap) n xs):n≤cap:=by
  rcases h.2 with ⟨e,h0⟩|⟨g,c,cur,e,hb,hg,hnc,_⟩
  · omega
  · simp only [Value.slice.injEq] at e;omega
theorem own_some {base E size n cap:Nat} {oa:Option Addr} {xs:List Value} (h:w.ownsRow base E size (.slice oa n cap) n xs) (hn:0<n):∃ g,oa=some ⟨g,0,none⟩:=by
  obtain⟨g,c,e,-⟩:=own_form h hn
  simp only [Value.slice.injEq] at e
  exact⟨g,e.1⟩
theorem app_at {α:Type} {xr l:List α} {k j:Nat} (h:xr.length=k):(xr++l)[k+j]?=l[j]?:=by rw [List.getElem?_append_right (by omega)];congr 1;omega
theorem St.shrink {E size n m cap:Nat} {oa:Option Addr} {xs ys:List Value} (st:St w0 M (.own (.slice oa n cap) E size n (xs++ys)::hs) w) (hm:m≤n) (hx:xs.length=m*size):St w0 M (.own (.slice oa m cap) E size m xs::hs) w:=
  st.turn0 (fun k hk=>by rw [Res.at?,obk_own] at hk ⊢;exact hk) (own_take (st.res (i:=0) rfl) hm hx)
end
def contE (u:List Tok→PR Ex) (n:Nat) (W:List Pend) (x:Ex) (r:List Tok):PR Ex:=match flatE u n r with
  | .error f=>.error f
  | .ok (l,r')=>.ok (shunt l W x,r')
theorem exprW_cont (u:List Tok→PR Ex) (r:List Tok):exprW u r=match u r with
    | .error f=>.error f
    | .ok (x,r1)=>contE u (r1.length+1) [] x r1:=by
  unfold exprW contE
  cases u r with
  | error f=>rfl
  | ok p=>rfl
theorem redu_all:∀ (lv lv':Int) (W:List Pend) (x:Ex),redu true lv W x=redu true lv' W x
  | lv,lv',[],x=>rfl
  | lv,lv',(op,a,l)::W,x=>by simp only [redu,true_or,if_true];exact redu_all lv lv' W _
theorem contE_stop {u:List Tok→PR Ex} {n:Nat} {W:List Pend} {x z:Ex} {r:List Tok} {lv:Int} (h:opT (here r)=none) (hz:redu true lv W x=([],z)):contE u (n+1) W x r=.ok (z,r):=by
  simp only [contE,flatE,h,shunt]
  rw [redu_all 0 lv,hz]
theorem contE_step {u:List Tok→PR Ex} {n:Nat} {W W':List Pend} {x z:Ex} {r:List Tok} {op:Nat} (h:opT (here r)=some op) (hz:redu false (lvlO (op:Int)) W x=(W',z)):contE u (n+1) W x r=match u r.tail with
    | .error f=>.error f
    | .ok (y,r')=>contE u n ((op,(here r).at_,z)::W') y r':=by
  simp only [contE,flatE,h]
  cases hu:u r.tail with
  | error f=>rfl
  | ok p=>
    simp only
    cases hf:flatE u n p.2 with
    | error f=>rfl
    | ok q=>simp only [shunt];rw [hz]
structure ESt where
  W:List Pend
  x:Ex
  r:List Tok
  n:Nat
  ow:Option Addr
  cw:Nat
  xs:List Value
  SW:List Nat
  ox:Option Addr
  cx:Nat
  Sx:List Nat
end Sx
/- The parser by operators that wait,and the one that climbs: the same trees. -/
namespace ParS
open Sx LexS
abbrev Flat:=Nat×Nat×Ex
def climbL:Nat→Int→Ex→List Flat→Ex×List Flat
  | 0,lv,x,l=>(x,l)
  | n+1,lv,x,[]=>(x,[])
  | n + 1, lv, x, (op, a, y) :: l => if lvlO (op : Int) < lv then (x, (op, a, y) :: l) else
      climbL n lv (binE op a x (climbL n (lvlO (op:Int)+1) y l).1) (climbL n (lvlO (op:Int)+1) y l).2
theorem climbL_len:∀ (n:Nat) (lv:Int) (x:Ex) (l:List Flat),(climbL n lv x l).2.length≤l.length
  | 0,lv,x,l=>Nat.le_refl _
  | n+1,lv,x,[]=>Nat.le_refl _
  | n+1,lv,x,(op,a,y)::l=>by
    simp only [climbL]
    split
    · exact Nat.le_refl _
    · have h1:=climbL_len n (lvlO (op:Int)+1) y l
      have h2:=climbL_len n lv (binE op a x (climbL n (lvlO (op:Int)+1) y l).1) (climbL n (lvlO (op:Int)+1) y l).2
      simp only [List.length_cons];omega
theorem climbL_fuel:∀ (n m:Nat) (lv:Int) (x:Ex) (l:List Flat),l.length<n→l.length<m→climbL n lv x l=climbL m lv x l
  | 0,m,lv,x,l,h,_=>by omega
  | n+1,0,lv,x,l,_,h=>by omega
  | n+1,m+1,lv,x,[],_,_=>rfl
  | n+1,m+1,lv,x,(op,a,y)::l,h1,h2=>by
    simp only [List.length_cons] at h1 h2
    simp only [climbL]
    rw [climbL_fuel n m (lvlO (op:Int)+1) y l (by omega) (by omega)]
    split
    · rfl
    · have h3:=climbL_len m (lvlO (op:Int)+1) y l
      exact climbL_fuel n m _ _ _ (by omega) (by omega)
def contW:List Pend→Ex→List Flat→Ex
  | [],x,l=>(climbL (l.length+1) 1 x l).1
  | (op,a,left)::W,x,l=>contW W (binE op a left (climbL (l.length+1) (lvlO (op:Int)+1) x l).1) (climbL (l.length+1) (lvlO (op:Int)+1) x l).2
theorem contW_nil:∀ (W:List Pend) (x:Ex),contW W x []=(redu true 0 W x).2
  | [],x=>rfl
  | (op,a,left)::W,x=>by
    simp only [contW,redu,climbL,true_or,if_true]
    exact contW_nil W _
theorem contW_push (W:List Pend) (op a:Nat) (x y:Ex) (l:List Flat) (h1:1≤lvlO (op:Int)) (h2:∀ p W',W=p::W'→lvlO (p.1:Int)<lvlO (op:Int)):contW W x ((op,a,y)::l)=contW ((op,a,x)::W) y l:=by
  have key:∀ lv:Int,lv≤lvlO (op:Int)→climbL (((op,a,y)::l).length+1) lv x ((op,a,y)::l)=
      climbL ((climbL (l.length+1) (lvlO (op:Int)+1) y l).2.length+1) lv (binE op a x (climbL (l.length+1) (lvlO (op:Int)+1) y l).1) (climbL (l.length+1) (lvlO (op:Int)+1) y l).2:=by
    intro lv hlv
    simp only [List.length_cons,climbL]
    rw [if_neg (by omega)]
    have h3:=climbL_len (l.length+1) (lvlO (op:Int)+1) y l
    exact climbL_fuel _ _ _ _ _ (by omega) (by omega)
  cases W with
  | nil=>simp only [contW];rw [key 1 h1]
  | cons p W=>
    obtain⟨o,b,left⟩:=p
    simp only [contW]
    rw [key (lvlO (o:Int)+1) (by have:=h2 _ _ rfl;simp at this;omega)]
theorem contW_pop (W:List Pend) (o b op a:Nat) (left x y:Ex) (l:List Flat) (h:lvlO (op:Int)≤lvlO (o:Int)):contW ((o,b,left)::W) x ((op,a,y)::l)=contW W (binE o b left x) ((op,a,y)::l):=by
  simp only [contW,List.length_cons,climbL]
  rw [if_pos (by omega)]
theorem shunt_step:∀ (W:List Pend) (x:Ex) (op a:Nat) (y:Ex) (l:List Flat),1≤lvlO (op:Int)→
    contW W x ((op,a,y)::l)=contW ((op,a,(redu false (lvlO (op:Int)) W x).2)::(redu false (lvlO (op:Int)) W x).1) y l
  | [],x,op,a,y,l,h=>contW_push [] op a x y l h (by simp)
  | (o,b,left)::W,x,op,a,y,l,h=>by
    by_cases hc:lvlO (op:Int)≤lvlO (o:Int)
    · rw [contW_pop W o b op a left x y l hc,shunt_step W _ op a y l h]
      simp only [redu,Bool.false_eq_true,false_or,hc,if_true]
    · simp only [redu,Bool.false_eq_true,false_or,hc,if_false]
      exact contW_push _ op a x y l h (by rintro p W' e;simp only [List.cons.injEq] at e;obtain⟨rfl,rfl⟩:=e;simp;omega)
def FlatOk (l:List Flat):Prop:=∀ p∈l,1≤lvlO (p.1:Int)
theorem shunt_cont:∀ (l:List Flat) (W:List Pend) (x:Ex),FlatOk l→shunt l W x=contW W x l
  | [],W,x,_=>by simp only [shunt];rw [contW_nil]
  | (op,a,y)::l,W,x,h=>by
    simp only [shunt]
    rw [shunt_step W x op a y l (h _ (.head _)),shunt_cont l _ _ (fun p hp=>h p (.tail _ hp))]
theorem shunt_climb (l:List Flat) (x:Ex) (h:FlatOk l):shunt l [] x=(climbL (l.length+1) 1 x l).1:=shunt_cont l [] x h
theorem climbL_all:∀ (n:Nat) (x:Ex) (l:List Flat),l.length<n→FlatOk l→(climbL n 1 x l).2=[]
  | 0,x,l,h,_=>by omega
  | n+1,x,[],_,_=>rfl
  | n+1,x,(op,a,y)::l,h,hf=>by
    simp only [List.length_cons] at h
    simp only [climbL]
    rw [if_neg (by have:=hf _ (.head _);simp at this;omega)]
    have h1:=climbL_len n (lvlO (op:Int)+1) y l
    refine climbL_all n _ _ (by omega) (fun p hp=>?_)
    exact hf p (.tail _ (climbL_mem n _ _ _ p hp))
 where climbL_mem:∀ (n:Nat) (lv:Int) (x:Ex) (l:List Flat) (p:Flat),p∈(climbL n lv x l).2→p∈l
  | 0,lv,x,l,p,h=>h
  | n+1,lv,x,[],p,h=>h
  | n+1,lv,x,(op,a,y)::l,p,h=>by
    simp only [climbL] at h
    split at h
    · exact h
    · exact .tail _ (climbL_mem n _ _ _ p (climbL_mem n _ _ _ p h))
def loopE (u:List Tok→PR Ex):Nat→Int→Ex→List Tok→PR Ex
  | 0,lv,x,r=>.error (0,0)
  | n+1,lv,x,r=>match opT (here r) with
    | none=>.ok (x,r)
    | some op=>if lvlO (op:Int)<lv then .ok (x,r) else match u r.tail with
      | .error f=>.error f
      | .ok (y,r1)=>match loopE u n (lvlO (op:Int)+1) y r1 with
        | .error f=>.error f
        | .ok (z,r2)=>loopE u n lv (binE op (here r).at_ x z) r2
def Goes (u:List Tok→PR Ex):Prop:=∀ r x r',u r=.ok (x,r')→r'.length<r.length
theorem findO_lvl {s:List UInt8} {op:Nat} (h:findO s=some op):1≤lvlO (op:Int):=by
  unfold findO at h
  have h1:=List.find?_some h
  have h2:=List.mem_of_find?_eq_some h
  simp only [List.mem_range] at h2
  simp only [Bool.and_eq_true] at h1
  have key:∀ k:Nat,k<19→twoOp (k:Int)=true→1≤lvlO (k:Int):=by decide
  exact key op h2 h1.1
theorem opT_lvl {t:Tok} {op:Nat} (h:opT t=some op):1≤lvlO (op:Int):=by
  unfold opT at h;split at h
  · exact findO_lvl h
  · cases h
theorem opT_ne {r:List Tok} {op:Nat} (h:opT (here r)=some op):r≠[]:=by
  rintro rfl;simp [opT,here,tok0] at h
theorem flatE_fuel (u:List Tok→PR Ex) (hu:Goes u):∀ (n m:Nat) (r:List Tok),r.length<n→r.length<m→flatE u n r=flatE u m r
  | 0,m,r,h,_=>by omega
  | n+1,0,r,_,h=>by omega
  | n+1,m+1,r,h1,h2=>by
    simp only [flatE]
    cases hop:opT (here r) with
    | none=>rfl
    | some op=>
      simp only
      cases hx:u r.tail with
      | error f=>rfl
      | ok p=>
        obtain⟨x,r1⟩:=p
        simp only
        have:=hu _ _ _ hx
        have:=tail_lt (opT_ne hop)
        rw [flatE_fuel u hu n m r1 (by omega) (by omega)]
theorem flatE_ok (u:List Tok→PR Ex):∀ (n:Nat) (r:List Tok) (l:List Flat) (r':List Tok),flatE u n r=.ok (l,r')→FlatOk l
  | 0,r,l,r',h=>by simp [flatE] at h
  | n+1,r,l,r',h=>by
    simp only [flatE] at h
    cases hop:opT (here r) with
    | none=>rw [hop] at h;cases h;intro p hp;simp at hp
    | some op=>
      rw [hop] at h
      simp only at h
      cases hx:u r.tail with
      | error f=>rw [hx] at h;cases h
      | ok p=>
        obtain⟨x,r1⟩:=p
        rw [hx] at h
        simp only at h
        cases hf:flatE u n r1 with
        | error f=>rw [hf] at h;cases h
        | ok q=>
          obtain⟨l1,r2⟩:=q
          rw [hf] at h
          cases h
          intro p hp
          rcases List.mem_cons.1 hp with rfl|hp
          · exact opT_lvl hop
          · exact flatE_ok u n r1 l1 _ hf p hp
theorem loopE_flat (u:List Tok→PR Ex) (hu:Goes u):∀ (n:Nat) (lv:Int) (x:Ex) (r:List Tok),r.length<n→
    (∀ l rE,flatE u n r=.ok (l,rE)→∃ r',loopE u n lv x r=.ok ((climbL n lv x l).1,r')∧r'.length≤r.length∧flatE u n r'=.ok ((climbL n lv x l).2,rE)∧l.length≤r.length)∧
    (∀ f,flatE u n r=.error f→loopE u n lv x r=.error f∨∃ x' r',loopE u n lv x r=.ok (x',r')∧r'.length≤r.length∧flatE u n r'=.error f∧∃ op,opT (here r')=some op∧lvlO (op:Int)<lv)
  | 0,lv,x,r,h=>by omega
  | n+1,lv,x,r,h=>by
    cases hop:opT (here r) with
    | none=>
      have e1:flatE u (n+1) r=.ok ([],r):=by simp only [flatE,hop]
      have e2:loopE u (n+1) lv x r=.ok (x,r):=by simp only [loopE,hop]
      refine⟨fun l rE hl=>?_,fun f hf=>by rw [e1] at hf;cases hf⟩
      rw [e1] at hl;cases hl
      exact⟨r,e2,Nat.le_refl _,e1,Nat.zero_le _⟩
    | some op=>
      have hne:=tail_lt (opT_ne hop)
      cases hx:u r.tail with
      | error f0=>
        have e1:flatE u (n+1) r=.error f0:=by simp only [flatE,hop,hx]
        refine⟨fun l rE hl=>by(rw [e1] at hl;cases hl),fun f hf=>?_⟩
        rw [e1] at hf;cases hf
        by_cases hlv:lvlO (op:Int)<lv
        · right
          exact⟨x,r,by simp only [loopE,hop,hlv,if_true],Nat.le_refl _,e1,op,hop,hlv⟩
        · left
          simp only [loopE,hop,hlv,if_false,hx]
      | ok p=>
        obtain⟨y,r1⟩:=p
        have hr1:=hu _ _ _ hx
        have e1:flatE u (n+1) r=match flatE u n r1 with | .error f=>.error f | .ok (l,r')=>.ok ((op,(here r).at_,y)::l,r'):=by first|(simp only [flatE,hop,hx];done)|(simp only [flatE,hop,hx];rfl)
        by_cases hlv:lvlO (op:Int)<lv
        · have e2:loopE u (n+1) lv x r=.ok (x,r):=by simp only [loopE,hop,hlv,if_true]
          refine⟨fun l rE hl=>?_,fun f hf=>.inr ⟨x,r,e2,Nat.le_refl _,hf,op,hop,hlv⟩⟩
          have hl':=hl
          rw [e1] at hl'
          cases hf:flatE u n r1 with
          | error f=>rw [hf] at hl';cases hl'
          | ok q=>
            obtain⟨l1,r2⟩:=q
            rw [hf] at hl'
            simp only [Except.ok.injEq,Prod.mk.injEq] at hl'
            obtain⟨rfl,rfl⟩:=hl'
            have hlen:=((loopE_flat u hu n 0 x r1 (by omega)).1 l1 _ hf).choose_spec.2.2.2
            refine⟨r,?_,Nat.le_refl _,?_,by simp only [List.length_cons];omega⟩
            · simp only [climbL,hlv,if_true];exact e2
            · simp only [climbL,hlv,if_true];exact hl
        · have e2:loopE u (n+1) lv x r=match loopE u n (lvlO (op:Int)+1) y r1 with | .error f=>.error f | .ok (z,r2)=>loopE u n lv (binE op (here r).at_ x z) r2:=by simp only [loopE,hop,hlv,if_false,hx]
          obtain⟨ihA,ihB⟩:=loopE_flat u hu n (lvlO (op:Int)+1) y r1 (by omega)
          refine⟨fun l rE hl=>?_,fun f hf=>?_⟩
          · have hl':=hl
            rw [e1] at hl'
            cases hf:flatE u n r1 with
            | error f=>rw [hf] at hl';cases hl'
            | ok q=>
              obtain⟨l1,r2⟩:=q
              rw [hf] at hl'
              simp only [Except.ok.injEq,Prod.mk.injEq] at hl'
              obtain⟨rfl,rfl⟩:=hl'
              obtain⟨r3,h1,h2,h3,h4⟩:=ihA l1 _ hf
              obtain⟨r4,k1,k2,k3,k4⟩:=(loopE_flat u hu n lv (binE op (here r).at_ x (climbL n (lvlO (op:Int)+1) y l1).1) r3 (by omega)).1 _ _ h3
              refine⟨r4,?_,by omega,?_,by simp only [List.length_cons];omega⟩
              · rw [e2,h1]
                simp only [climbL,hlv,if_false]
                exact k1
              · simp only [climbL,hlv,if_false]
                rw [flatE_fuel u hu (n+1) n r4 (by omega) (by omega)]
                exact k3
          · rw [e1] at hf
            have hf':flatE u n r1=.error f:=by
              cases hq:flatE u n r1 with
              | error g=>rw [hq] at hf;cases hf;rfl
              | ok q=>rw [hq] at hf;cases hf
            rcases ihB f hf' with h1|⟨x',r',h1,h2,h3,op',h4,h5⟩
            · left;rw [e2,h1]
            · rcases (loopE_flat u hu n lv (binE op (here r).at_ x x') r' (by omega)).2 f h3 with k1|⟨x2,r2,k1,k2,k3,k4⟩
              · left;rw [e2,h1];exact k1
              · right
                refine⟨x2,r2,by rw [e2,h1];exact k1,by omega,?_,k4⟩
                rw [flatE_fuel u hu (n+1) n r2 (by omega) (by omega)]
                exact k3
def climbE (u:List Tok→PR Ex) (lv:Int) (r:List Tok):PR Ex:=match u r with
  | .error f=>.error f
  | .ok (x,r1)=>loopE u (r1.length+1) lv x r1
theorem climbE_expr (u:List Tok→PR Ex) (hu:Goes u) (r:List Tok):climbE u 1 r=exprW u r:=by
  unfold climbE exprW
  cases hx:u r with
  | error f=>rfl
  | ok p=>
    obtain⟨x,r1⟩:=p
    simp only
    obtain⟨hA,hB⟩:=loopE_flat u hu (r1.length+1) 1 x r1 (by omega)
    cases hf:flatE u (r1.length+1) r1 with
    | error f=>
      simp only
      rcases hB f hf with h|⟨x',r',h1,h2,h3,op,h4,h5⟩
      · exact h
      · have:=opT_lvl h4;omega
    | ok q=>
      obtain⟨l,rE⟩:=q
      simp only
      obtain⟨r',h1,h2,h3,h4⟩:=hA l rE hf
      have hok:=flatE_ok u _ _ _ _ hf
      rw [climbL_all _ _ _ (by omega) hok] at h3
      have e:r'=rE:=by
        simp only [flatE] at h3
        cases hop:opT (here r') with
        | none=>rw [hop] at h3;simp at h3;exact h3
        | some op=>
          rw [hop] at h3
          simp only at h3
          cases hy:u r'.tail with
          | error f=>rw [hy] at h3;cases h3
          | ok q2=>
            obtain⟨y,r2⟩:=q2
            rw [hy] at h3
            simp only at h3
            cases hq:flatE u r1.length r2 with
            | error f=>rw [hq] at h3;cases h3
            | ok q3=>rw [hq] at h3;simp at h3
      rw [h1,e,shunt_climb l x hok,climbL_fuel _ (l.length+1) 1 x l (by omega) (by omega)]
end ParS
