/- A part of the proof: contracts of functions and plain laws; each theorem says its own conditions. -/
import Derived.Test.YtkhpdpenlnhbiaaGreatDoorTopLoweredK7
import Derived.Test.YtkhpdpenlnhbiaaGreatDoorTopLoweredQF
import Derived.Test.YtkhpdpenlnhbiaaGreatDoorTopLoweredK2
import Derived.Test.YtkhpdpenlnhbiaaGreatDoorTopLoweredK9
set_option linter.unusedVariables false
set_option linter.unusedSimpArgs false
namespace Go.Proofs.YtkhpdpenlnhbiaaGreatDoor.Pq
open Go.RowKit Sx LexS ParS _root_.Go.Proofs.Tryz
theorem Tryz.info50:Tryz.prog.info? 50=some Tryz.t50:=by kernel_rfl
def HT (w:World) (t:Th) (v:Value) (w':World):Prop:=∃ ol ob cl cb Sq,v=.agg (thC t ol ob cl cb).toArray∧ThS 177 144 134 w' t (thC t ol ob cl cb) Sq∧Nw w.heap.size Sq
theorem hdecl (c:PCtx) (hR:c.R=69):Reader c 39 (declP c.e):=fun r hr w hC hP=>pdecl_any c hR r hr w hC hP
theorem hinit (c:PCtx) (hR:c.R=69):Reader c 38 (initP c.e):=fun r hr w hC hP=>pinit_any c hR r hr w hC hP
theorem holds_ths {w:World} {base:Nat} {s:Th} {l:List Value} {S:List Nat} (h:ThS 177 144 134 w s l S):(Res.tree S fun w=>ThS 177 144 134 w s l S).holds base w:=holds_of h h.lt (fun a b h hk=>h.kept hk)
theorem holds_thss {w:World} {base:Nat} {s:List Th} {l:List Value} {S:List Nat} (h:ThSs 177 144 134 w s l S):(Res.tree S fun w=>ThSs 177 144 134 w s l S).holds base w:=holds_of h h.lt (fun a b h hk=>h.kept hk)
theorem dcr_rd {w:World} {oa:Option Addr} {cap:Nat} {ds:List Dc} {S:List Nat} (h:DcR 134 w oa cap ds S):RdRowC w oa (ds.flatMap dcL):=by
 obtain⟨h1,-⟩:=h;rcases Nat.eq_zero_or_pos ds.length with h0|h0;exact .inl (by rw [List.eq_nil_of_length_eq_zero h0];rfl);obtain⟨g,rfl⟩:=own_some h1 h0;exact .inr ⟨_,rfl,fun k u hk=>by rw [addr_add,Nat.zero_add];exact own_cell h1 hk⟩
def contLo (e n:Nat) (acc:List Dc) (r:List Tok):PR (List Dc):=match localsP e n r with
 | .error f=>.error f
 | .ok (l,r')=>.ok (acc++l,r')
theorem contLo_nil (e n:Nat) (r:List Tok):localsP e n r=contLo e n [] r:=by unfold contLo;cases localsP e n r with|error f=>rfl|ok p=>rfl
theorem contLo_end {e n:Nat} {acc:List Dc} {r:List Tok} (h:isT wLocal r=false):contLo e (n+1) acc r=.ok (acc,r):=by
 simp only [contLo,localsP,if_neg (show ¬ isT wLocal r=true by simp [h]),List.append_nil]
theorem contLo_step {e n:Nat} {acc:List Dc} {r:List Tok} (h:isT wLocal r=true):contLo e (n+1) acc r=match listP e (declP e) (r.length+1) r.tail with
  | .error f=>.error f
  | .ok (l,r')=>contLo e n (acc++l) r':=by
 simp only [contLo,localsP,if_pos h]
 cases listP e (declP e) (r.length+1) r.tail with
 | error f=>rfl
 | ok p=>
  simp only
  cases localsP e n p.2 with
  | error f=>rfl
  | ok q=>simp
theorem threadP_eq (e:Nat) (ts:List Tok):threadP e ts=match nameP e ts with
  | .error f=>.error f
  | .ok (t,r)=>match want e [123] r with
   | .error f=>.error f
   | .ok r1=>match contLo e (r1.length+1) [] r1 with
    | .error f=>.error f
    | .ok (l,r2)=>match restP e 63 r2 with
     | .error f=>.error f
     | .ok (b,r3)=>.ok (⟨t.text,l,b,(t.at_:Int)⟩,r3):=by
 unfold threadP
 cases nameP e ts with
 | error f=>rfl
 | ok p=>
  simp only
  cases want e [123] p.2 with
  | error f=>rfl
  | ok r1=>simp only;rw [← contLo_nil];rfl
theorem listP_len (e:Nat) (one:List Tok→PR Dc) (h1:∀ r x r',one r=.ok (x,r')→r'.length<r.length):∀ (n:Nat) (r:List Tok) (l:List Dc) (r':List Tok),listP e one n r=.ok (l,r')→l.length+r'.length≤r.length
 | 0,r,l,r',h=>by simp [listP] at h
 | n+1,r,l,r',h=>by
  simp only [listP] at h
  cases ho:one r with
  | error f=>rw [ho] at h;cases h
  | ok p=>
   obtain⟨x,r1⟩:=p
   have hl:=h1 _ _ _ ho
   rw [ho] at h;simp only at h
   split at h
   ·rename_i hc
    have ht:=tail_lt (isT_ne hc)
    cases hq:listP e one n r1.tail with
    | error f=>rw [hq] at h;cases h
    | ok q=>
     obtain⟨l2,r2⟩:=q
     rw [hq] at h;cases h
     have:=listP_len e one h1 n _ _ _ hq
     simp;omega
   ·cases hq:want e [59] r1 with
    | error f=>rw [hq] at h;cases h
    | ok r2=>
     rw [hq] at h;cases h
     obtain⟨hc,rfl⟩:=want_ok hq
     have ht:=tail_lt (isT_ne hc)
     simp;omega
theorem nameP_len {e:Nat} {r r':List Tok} {t:Tok} (h:nameP e r=.ok (t,r')):r'.length<r.length:=by
 unfold nameP at h;split at h;rename_i hk;cases h;exact tail_lt (kind_ne hk (by decide));cases h
theorem declP_len {e:Nat} (r:List Tok) (x:Dc) (r':List Tok) (h:declP e r=.ok (x,r')):r'.length<r.length:=by
 unfold declP at h
 cases hn:nameP e r with
 | error f=>rw [hn] at h;cases h
 | ok p=>rw [hn] at h;cases h;exact nameP_len hn
theorem initP_len {e:Nat} (r:List Tok) (x:Dc) (r':List Tok) (h:initP e r=.ok (x,r')):r'.length<r.length:=by
 unfold initP at h
 cases hn:nameP e r with
 | error f=>rw [hn] at h;cases h
 | ok p=>
  obtain⟨t,r1⟩:=p
  have hl:=nameP_len hn
  rw [hn] at h;simp only at h
  split at h
  ·rename_i hc
   have ht:=tail_lt (isT_ne hc)
   obtain⟨R,hR⟩:∃ R,R=(if isT [45] r1.tail=true then r1.tail.tail else r1.tail):=⟨_,rfl⟩
   have h4:R.length≤r1.tail.length:=by
    rw [hR];split
    ·rw [List.length_tail];omega
    ·exact Nat.le_refl _
   rw [← hR] at h
   cases hw:wordP e (isT [45] r1.tail) R with
   | error f=>rw [hw] at h;cases h
   | ok q=>
    rw [hw] at h;cases h
    unfold wordP at hw;split at hw
    ·rename_i hk
     cases hw
     have h3:=tail_lt (kind_ne hk (by decide))
     simp only at hl ⊢
     omega
    ·cases hw
  ·cases h;simpa using hl
set_option maxHeartbeats 1000000 in
theorem pthread_any (c:PCtx) (hR:c.R=69) (hg:c.g=1) (r:List Tok) (hr:r <:+ c.ts) (w:World) (hC:PCok c w) (hP:PAt c r w):RetP Tryz.prog 41 [.pointer (some ⟨c.pb,0,none⟩)] w
    (PRes c r (threadP c.e r) [c.pb] w (HT w)) (PErr c (threadP c.e r) [c.pb] w):=by
 refine retp_of [_] Tryz.func41 rfl Tryz.ntmps41 rfl ?_;obtain⟨w0,rfl⟩:∃ w0,w0=w:=⟨_,rfl⟩
 have hP':=hP;dsimp only [PAt,pcell] at hP;have st:=St.of1 [c.pb] hP;have h20:=hC.len;have hl:=suf_len hr;have hs:=threadP_eq c.e r;replace st:=st.ownNil 134 3;refine a2 ?_;refine vc_e (e_al (l:=[_,_,_,_]) st rfl rfl Tryz.zeroValue50 rfl ?_);intro b2 w hb2 st;refine a5 ?_;refine vc_e (e_callp [_] rfl rfl Tryz.call102 rfl (pname_any c hR r hr _ (hC.k1 st.chg) (by exact st.rs 2)) (by rintro _ w' ⟨f,hf,rfl,ch⟩ a ha;exact And.intro ha (Or.inr ⟨_,rfl,f,by rw [hs,hf],rfl,st.chg.trans ch⟩)) ?_);rintro _ w ⟨t,r1,hx,hsf,hln,hP1,cw,rfl⟩;replace st:=St.prs (b:=c.pb) st 2 rfl cw (.inl (.head _)) hP1;rw [hx] at hs;dsimp only at hs;have hr1:=hsf.trans hr;have hsfr1:=hsf;have hlnr1:=hln;refine vc_e (e_al (l:=[_,_,_,_]) st rfl rfl Tryz.zeroValue64 rfl ?_);intro b3 w hb3 st;refine vc_e (ests st 0 [_,_,_,_] Tryz.sizeOf64 ?_);intro w st;refine a4 ?_;refine yfz 1 Tryz.underlying64 Tryz.sizeOf9 ?_;refine yl st 0 Tryz.isAgg9 ?_;refine yfz 3 Tryz.underlying64 Tryz.sizeOf3 ?_;refine yl st 0 Tryz.isAgg3 ?_;refine vy (ybd (.agg #[_,_,_,_]) [(0,_),(3,_)]) ?_;refine vc_e (e_al (l:=[_,_,_,_]) st rfl rfl Tryz.zeroValue50 rfl ?_);intro b4 w hb4 st;refine vc_e (ests st 0 [_,_,_,_] Tryz.sizeOf50 ?_);intro w st;refine a5 ?_;refine vc_e (e_bs1 (l:=[_]) st rfl rfl rfl rfl Tryz.underlying189 Tryz.sizeOf9 rfl rfl rfl Tryz.zeroValue9 ?_);intro b13 w hb13 st;refine vc_e (e_callp [_,_] rfl rfl Tryz.call99 rfl (pwant_any c [[123]] (by simp) _ _ _ _ rfl r1 hr1 _ (hC.k1 st.chg) (by exact st.rs 5) hR (st.res (i:=0) rfl) (by exact st.bne 0 5 (by decide) rfl rfl)) (by rintro _ w' ⟨f,hf,rfl,ch⟩ a ha;rw [wantL_one] at hf;exact And.intro ha (Or.inr ⟨_,rfl,f,by rw [hs,hf],rfl,st.chg.trans ch⟩)) ?_);rintro _ w ⟨r2,hx,hsfr2,hlnr2,hP1,cw⟩;rw [wantL_one] at hx;rw [hx] at hs;dsimp only at hs;replace st:=St.prs (b:=c.pb) st 5 rfl cw (.inl (.head _)) hP1;have hr2:=hsfr2.trans hr1;refine a4 ?_;refine vc_loop (w0:=w0) (M:=[c.pb]) (fun (y:List Dc×List Tok×Nat×Option Addr×Nat)=>[(0,.pointer (some ⟨c.pb,0,none⟩)),(2,.pointer (some ⟨b2,0,none⟩)),(4,.pointer (some ⟨b4,0,none⟩))]) (fun y=>[.blk b4 (.cells [str t.text,.slice y.2.2.2.1 y.1.length y.2.2.2.2,.slice none 0 0,.int .i64 (t.at_:Int)].toArray 50 (0,0)),.own (.slice y.2.2.2.1 y.1.length y.2.2.2.2) 134 3 y.1.length (y.1.flatMap dcL),.blk b2 (.cells [str [],.slice none 0 0,.slice none 0 0,.int .i64 0].toArray 50 (0,0)),.blk c.pb (.cells (pcell c y.2.1).toArray c.T (0,0))]) (fun y _=>y.2.1 <:+ r2∧y.2.1.length+y.1.length≤r2.length∧y.2.1.length<y.2.2.1∧contLo c.e (r2.length+1) [] r2=contLo c.e y.2.2.1 y.1 y.2.1) (fun y=>y.2.1.length) ([],r2,r2.length+1,none,0) ⟨rfl,rfl,rfl,trivial⟩ (st.pick [1,4,3,5] rfl (by decide)) ⟨List.suffix_refl _,by simp,by simp,rfl⟩ ?_;clear st;rintro ⟨acc,r3,k,oq,cq⟩ w ⟨hsf3,hl3,hk3,hlo⟩ st;dsimp only at hsf3 hl3 hk3 hlo st;have hr3:=hsf3.trans hr2;obtain⟨k,rfl⟩:∃ j,k=j+1:=⟨k - 1,by omega⟩
 refine a4 ?_;refine vc_e (e_call [_,_] rfl rfl Tryz.call36 rfl (ptake_any c wLocal r3 hr3 _ (hC.k1 st.chg) (by exact st.rs 3)) ?_);rintro _ w ⟨rfl,hP1,cw⟩;replace st:=St.prs (b:=c.pb) st 3 rfl cw (.inl (.head _)) hP1;refine a2 ?_;refine vif ?_ ?_;intro hc16;simp only [hc16,if_true] at st;have ht:=tail_lt (isT_ne hc16);have hr3t:=suf_tail hr3;rw [hlo,contLo_step hc16] at hs;have h40:=hr2.length_le;refine a3 ?_;refine kdr Tryz.mixed [Yt 0,Yt 2,Yt 3,Yt 4,Yt 1,Nt 5,Nt 6,Yt 7,Nt 8] 8 [.blk b4 (.cells [str t.text,.slice oq acc.length cq,.slice none 0 0,.int .i64 (t.at_:Int)].toArray 50 (0,0))] st ?_;clear st;intro w st hS;refine vk_takeU rfl rfl rfl rfl (fun _=>hS) (fun w=>(by exact y_faz (k:=1) rfl Tryz.underlying50 rfl rfl Tryz.sizeOf23 rfl)) ?_;(iterate 2 refine km hS ?_);refine vk_takeU rfl rfl rfl rfl (fun _=>hS) (fun w=>y_mf [_] [] rfl rfl) ?_;refine vk_take rfl rfl rfl rfl hS (fun w st=>y_ld st 0 rfl Tryz.isAgg23 rfl rfl) ?_;refine vk_do rfl rfl (e_callp [_,_] rfl rfl Tryz.call37 rfl (plist_any c hR 39 (declP c.e) Tryz.call39 (hdecl c hR) (r3.length+1) r3.tail (by rw [List.length_tail];omega) hr3t _ (hC.k1 st.chg) (by exact st.rs 3)) (by rintro _ w' ⟨f,hf,rfl,ch⟩ a ha;exact And.intro ha (Or.inr ⟨_,rfl,f,by rw [hs,hf],rfl,st.chg.trans ch⟩)) ?_);rintro _ w ⟨l,r4,hx,hsfr4,hlnr4,hP1,cw,oD,cD,SD,rfl,hQ,hN⟩;have hNSD:=hN.le st.chg.size;replace st:=St.prsT (b:=c.pb) st 3 rfl cw (.inl (.head _)) hP1 (holds_dc hQ) hN.2;rw [hx] at hs;dsimp only at hs;have hr4:=hsfr4.trans hr3t;have hll:=listP_len c.e _ declP_len _ _ _ _ (by assumption);refine vk_next st.dr ?_;intro hS;refine vk_do rfl rfl (e_appr (bytes:=32) (len':=(acc++l).length) (ys:=(acc++l).flatMap dcL) st 2 rfl rfl rfl rfl rfl (dcr_rd (st.res (i:=0) rfl).1) Tryz.underlying23 Tryz.info134 rfl rfl rfl rfl rfl (dcs_len l) (dcs_one l) (by unfold maxLen;omega) (by omega) (by simp) (by simp) ?_);intro oaQ capQ w st;refine vk_next st.dr ?_;intro hS;refine vk_takeU rfl rfl rfl rfl (fun _=>hS) (fun w=>(by exact y_faz (k:=1) rfl Tryz.underlying50 rfl rfl Tryz.sizeOf23 rfl)) ?_;refine vk_do rfl rfl (est st 1 Tryz.sizeOf23 ?_);intro w st;refine vk_late ?_;refine vk_end ?_;refine a1 ?_;refine vq_again (acc++l,r4,k,oaQ,capQ)  ⟨rfl,rfl,rfl,trivial⟩ (st.pick [1,2,3,4] rfl (by decide)) ?_ ?_;exact⟨(hsfr4.trans (List.tail_suffix _)).trans hsf3,by simp;omega,by dsimp only;omega,by rw [hlo,contLo_step hc16,(by assumption:listP c.e (declP c.e) (r3.length+1) r3.tail=_)]⟩;dsimp only;omega;intro hc16;simp only [hc16,Bool.false_eq_true,if_false] at st;rw [hlo,contLo_end hc16] at hs;dsimp only at hs;refine a8 ?_;refine vc_e (e_callp [_,_] rfl rfl Tryz.call103 rfl (prest_any c hR hg r3 hr3 _ (hC.k1 st.chg) (by exact st.rs 3)) (by rintro _ w' ⟨f,hf,rfl,ch⟩ a ha;exact And.intro ha (Or.inr ⟨_,rfl,f,by rw [hs,hf],rfl,st.chg.trans ch⟩)) ?_);rintro _ w ⟨l,r4,hx,hsfr4,hlnr4,hP1,cw,ob,cb,Sb,rfl,hQ,hN⟩;have hNSb:=hN.le st.chg.size
 replace st:=St.prsT (b:=c.pb) st 3 rfl cw (.inl (.head _)) hP1 (holds_sm hQ) hN.2;rw [hx] at hs;refine yfz 2 Tryz.underlying50 Tryz.sizeOf48 ?_;refine vc_e (est st 1 Tryz.sizeOf48 ?_);intro w st;refine a4 ?_;refine yla st 1 [_,_,_,_] Tryz.isAgg50 Tryz.sizeOf50 ?_;refine vc_e (ests st 3 [_,_,_,_] Tryz.sizeOf50 ?_);intro w st;refine a3 ?_;refine vq_ret1 st (.inl rfl) Tryz.results41 (by exact .cell 3 rfl rfl Tryz.isAgg50 Tryz.sizeOf50) ?_;refine .inl ⟨_,rfl,?_⟩;have hown:=st.ownNw (i:=2) rfl;exact⟨_,r4,hs,hsfr4.trans (hsf3.trans (hsfr2.trans hsfr1)),by have:=hsf3.length_le;simp at hlnr2;omega,(by exact st.rs 4),st.chg,oq,ob,cq,cb,obk oq++Sb,rfl,⟨oq,cq,ob,cb,obk oq,Sb,rfl,⟨hown.1,rfl⟩,(st.res (i:=0) rfl).1,rfl⟩,hown.2.app hNSb (fun b hb=>st.ne (i:=2) (j:=0) (by decide) rfl rfl b (by simpa [Res.at?,obk_own] using hb))⟩
end Go.Proofs.YtkhpdpenlnhbiaaGreatDoor.Pq
namespace Go.Proofs.YtkhpdpenlnhbiaaGreatDoor.Pq
open Go.RowKit Sx LexS ParS _root_.Go.Proofs.Tryz
def HP (w:World) (q:Pg) (v:Value) (w':World):Prop:=∃ os ol ot cs cl ct Sq,v=.agg (pgC q os ol ot cs cl ct).toArray∧PgS 177 144 134 50 w' q (pgC q os ol ot cs cl ct) Sq∧Nw w.heap.size Sq
def contT (e n:Nat) (acc:List Th) (r:List Tok):PR (List Th):=match threadsP e n r with
 | .error f=>.error f
 | .ok (l,r')=>.ok (acc++l,r')
theorem contT_nil (e n:Nat) (r:List Tok):threadsP e n r=contT e n [] r:=by unfold contT;cases threadsP e n r with|error f=>rfl|ok p=>rfl
theorem contT_end {e n:Nat} {acc:List Th} {r:List Tok} (h:isT wThread r=false):contT e (n+1) acc r=.ok (acc,r):=by
 simp only [contT,threadsP,if_neg (show ¬ isT wThread r=true by simp [h]),List.append_nil]
theorem contT_step {e n:Nat} {acc:List Th} {r:List Tok} (h:isT wThread r=true):contT e (n+1) acc r=match threadP e r.tail with
  | .error f=>.error f
  | .ok (t,r')=>contT e n (acc++[t]) r':=by
 simp only [contT,threadsP,if_pos h]
 cases threadP e r.tail with
 | error f=>rfl
 | ok p=>
  simp only
  cases threadsP e n p.2 with
  | error f=>rfl
  | ok q=>simp
def contPg (e n:Nat) (sh lk:List Dc) (r:List Tok):Except Flt Pg:=match progP e n r with
 | .error f=>.error f
 | .ok p=>.ok ⟨sh++p.shared,lk++p.locks,p.threads⟩
theorem contPg_nil (e n:Nat) (r:List Tok):progP e n r=contPg e n [] [] r:=by unfold contPg;cases progP e n r with|error f=>rfl|ok p=>rfl
theorem contPg_sh {e n:Nat} {sh lk:List Dc} {r:List Tok} (h:isT wShared r=true):contPg e (n+1) sh lk r=match listP e (initP e) (r.length+1) r.tail with
  | .error f=>.error f
  | .ok (l,r')=>contPg e n (sh++l) lk r':=by
 simp only [contPg,progP,if_pos h]
 cases listP e (initP e) (r.length+1) r.tail with
 | error f=>rfl
 | ok p=>
  simp only
  cases progP e n p.2 with
  | error f=>rfl
  | ok q=>simp
theorem contPg_lk {e n:Nat} {sh lk:List Dc} {r:List Tok} (h0:isT wShared r=false) (h:isT wLock r=true):contPg e (n+1) sh lk r=match listP e (declP e) (r.length+1) r.tail with
  | .error f=>.error f
  | .ok (l,r')=>contPg e n sh (lk++l) r':=by
 simp only [contPg,progP,if_neg (show ¬ isT wShared r=true by simp [h0]),if_pos h]
 cases listP e (declP e) (r.length+1) r.tail with
 | error f=>rfl
 | ok p=>
  simp only
  cases progP e n p.2 with
  | error f=>rfl
  | ok q=>simp
theorem contPg_th {e n:Nat} {sh lk:List Dc} {r:List Tok} (h0:isT wShared r=false) (h1:isT wLock r=false):contPg e (n+1) sh lk r=match contT e (r.length+1) [] r with
  | .error f=>.error f
  | .ok (l,r')=>if r'.length=0 then .ok ⟨sh,lk,l⟩ else fail e 2 r':=by
 simp only [contPg,progP,if_neg (show ¬ isT wShared r=true by simp [h0]),if_neg (show ¬ isT wLock r=true by simp [h1])];rw [contT_nil]
 cases contT e (r.length+1) [] r with
 | error f=>rfl
 | ok p=>
  simp only
  by_cases hc:p.2.length=0
  ·simp only [if_pos hc,List.append_nil]
  ·simp only [if_neg hc] <;> rfl
def PResG (c:PCtx) (r:List Tok) (res:Except Flt Pg) (M:List Nat) (w:World) (v:Value) (w':World):Prop:=∃ q,res=.ok q∧Chg M w w'∧HP w q v w'
set_option maxHeartbeats 2000000 in
theorem pprog_any (c:PCtx) (hR:c.R=69) (hg:c.g=1) (r:List Tok) (hr:r <:+ c.ts) (w:World) (hC:PCok c w) (hP:PAt c r w) (n:Nat) (hn:r.length<n):RetP Tryz.prog 18 [.pointer (some ⟨c.pb,0,none⟩)] w
    (PResG c r (progP c.e n r) [c.pb] w) (PErr c (progP c.e n r) [c.pb] w):=by
 refine retp_of [_] Tryz.func18 rfl Tryz.ntmps18 rfl ?_;obtain⟨w0,rfl⟩:∃ w0,w0=w:=⟨_,rfl⟩
 have hP':=hP;dsimp only [PAt,pcell] at hP;have st:=St.of1 [c.pb] hP;have h20:=hC.len;have hl:=suf_len hr;have hs:=contPg_nil c.e n r;replace st:=(st.ownNil 134 3).ownNil 134 3;refine a2 ?_;refine vc_e (e_al (l:=[_,_,_]) st rfl rfl Tryz.zeroValue26 rfl ?_);intro b2 w hb2 st;refine a4 ?_;refine vc_e (e_al (l:=[_,_,_]) st rfl rfl Tryz.zeroValue26 rfl ?_);intro b3 w hb3 st;refine a3 ?_;refine vc_loop (w0:=w0) (M:=[c.pb]) (fun (y:List Dc×List Dc×List Tok×Nat×Option Addr×Nat×Option Addr×Nat)=>[(0,.pointer (some ⟨c.pb,0,none⟩)),(2,.pointer (some ⟨b2,0,none⟩)),(3,.pointer (some ⟨b3,0,none⟩))]) (fun y=>[.blk b3 (.cells [.slice y.2.2.2.2.1 y.1.length y.2.2.2.2.2.1,.slice y.2.2.2.2.2.2.1 y.2.1.length y.2.2.2.2.2.2.2,.slice none 0 0].toArray 26 (0,0)),.own (.slice y.2.2.2.2.1 y.1.length y.2.2.2.2.2.1) 134 3 y.1.length (y.1.flatMap dcL),.own (.slice y.2.2.2.2.2.2.1 y.2.1.length y.2.2.2.2.2.2.2) 134 3 y.2.1.length (y.2.1.flatMap dcL),.blk b2 (.cells [.slice none 0 0,.slice none 0 0,.slice none 0 0].toArray 26 (0,0)),.blk c.pb (.cells (pcell c y.2.2.1).toArray c.T (0,0))]) (fun y _=>y.2.2.1 <:+ r∧y.2.2.1.length+y.1.length+y.2.1.length≤r.length∧y.2.2.1.length<y.2.2.2.1∧progP c.e n r=contPg c.e y.2.2.2.1 y.1 y.2.1 y.2.2.1) (fun y=>y.2.2.1.length) ([],[],r,n,none,0,none,0) ⟨rfl,rfl,rfl,trivial⟩ (st.pick [0,2,3,1,4] rfl (by decide)) ⟨List.suffix_refl _,by simp,hn,hs⟩ ?_;clear st hs;rintro ⟨sh,lk,r1,k,os,cs,ol,cl⟩ w ⟨hsf1,hl1,hk1,hs⟩ st;dsimp only at hsf1 hl1 hk1 hs st;have hr1:=hsf1.trans hr;obtain⟨k,rfl⟩:∃ j,k=j+1:=⟨k - 1,by omega⟩
 have h40:=hr.length_le;refine a5 ?_;refine vc_e (e_call [_,_] rfl rfl Tryz.call36 rfl (ptake_any c wShared r1 hr1 _ (hC.k1 st.chg) (by exact st.rs 4)) ?_);rintro _ w ⟨rfl,hP1,cw⟩;replace st:=St.prs (b:=c.pb) st 4 rfl cw (.inl (.head _)) hP1;dsimp only [setNth] at st;refine a3 ?_;refine vif ?_ ?_;intro hc5;(try simp only [dn] at hc5);simp only [hc5,if_true] at st;have ht:=tail_lt (isT_ne hc5);have hr1t:=suf_tail hr1;rw [contPg_sh hc5] at hs;refine kdr Tryz.mixed [Yt 0,Yt 2,Yt 3,Yt 4,Yt 1,Nt 5,Nt 6,Yt 7,Nt 8] 8 [.blk b3 (.cells [.slice os sh.length cs,.slice ol lk.length cl,.slice none 0 0].toArray 26 (0,0))] st ?_;clear st;intro w st hS;refine vk_takeU rfl rfl rfl rfl (fun _=>hS) (fun w=>y_fa0 rfl Tryz.underlying26 rfl rfl Tryz.sizeOf23 rfl) ?_;(iterate 2 refine km hS ?_);refine vk_takeU rfl rfl rfl rfl (fun _=>hS) (fun w=>y_mf [_] [] rfl rfl) ?_;refine vk_take rfl rfl rfl rfl hS (fun w st=>y_ld st 0 rfl Tryz.isAgg23 rfl rfl) ?_;refine vk_do rfl rfl (e_callp [_,_] rfl rfl Tryz.call37 rfl (plist_any c hR 38 (initP c.e) Tryz.call38 (hinit c hR) (r1.length+1) r1.tail (by rw [List.length_tail];omega) hr1t _ (hC.k1 st.chg) (by exact st.rs 4)) (by rintro _ w' ⟨f,hf,rfl,ch⟩ a ha;exact And.intro ha (Or.inr ⟨_,rfl,f,by rw [hs,hf],rfl,st.chg.trans ch⟩)) ?_);rintro _ w ⟨l,r2,hx,hsfr2,hlnr2,hP1,cw,oD,cD,SD,rfl,hQ,hN⟩;have hNSD:=hN.le st.chg.size;replace st:=St.prsT (b:=c.pb) st 4 rfl cw (.inl (.head _)) hP1 (holds_dc hQ) hN.2;dsimp only [setNth] at st;rw [hx] at hs;dsimp only at hs;have hr2:=hsfr2.trans hr1t;have hll:=listP_len c.e _ initP_len _ _ _ _ (by assumption);refine vk_next st.dr ?_;intro hS;refine vk_do rfl rfl (e_appr (bytes:=32) (len':=(sh++l).length) (ys:=(sh++l).flatMap dcL) st 2 rfl rfl rfl rfl rfl (dcr_rd (st.res (i:=0) rfl).1) Tryz.underlying23 Tryz.info134 rfl rfl rfl rfl rfl (dcs_len l) (dcs_one l) (by unfold maxLen;omega) (by omega) (by simp) (by simp) ?_);intro oaQ capQ w st;dsimp only [setNth] at st;refine vk_next st.dr ?_;intro hS;refine vk_takeU rfl rfl rfl rfl (fun _=>hS) (fun w=>y_fa0 rfl Tryz.underlying26 rfl rfl Tryz.sizeOf23 rfl) ?_;refine vk_do rfl rfl (est st 1 Tryz.sizeOf23 ?_);intro w st;dsimp only [setNth,wr] at st;refine vk_late ?_;refine vk_end ?_;refine a2 ?_;refine vq_again (sh++l,lk,r2,k,oaQ,capQ,ol,cl)  ⟨rfl,rfl,rfl,trivial⟩ (st.pick [1,2,3,4,5] rfl (by decide)) ?_ ?_;exact⟨(hsfr2.trans (List.tail_suffix _)).trans hsf1,by simp;omega,by dsimp only;omega,hs⟩;dsimp only;omega;intro hc5;(try simp only [dn] at hc5);simp only [hc5,Bool.false_eq_true,if_false] at st;refine a3 ?_;refine vc_e (e_call [_,_] rfl rfl Tryz.call36 rfl (ptake_any c wLock r1 hr1 _ (hC.k1 st.chg) (by exact st.rs 4)) ?_);rintro _ w ⟨rfl,hP1,cw⟩;replace st:=St.prs (b:=c.pb) st 4 rfl cw (.inl (.head _)) hP1;dsimp only [setNth] at st;refine a3 ?_;refine vif ?_ ?_;intro hc16;(try simp only [dn] at hc16);simp only [hc16,if_true] at st;have ht:=tail_lt (isT_ne hc16)
 have hr1t:=suf_tail hr1;rw [contPg_lk hc5 hc16] at hs;refine kdr Tryz.mixed [Yt 0,Yt 2,Yt 3,Yt 4,Yt 1,Nt 5,Nt 6,Yt 7,Nt 8] 8 [.blk b3 (.cells [.slice os sh.length cs,.slice ol lk.length cl,.slice none 0 0].toArray 26 (0,0))] st ?_;clear st;intro w st hS;refine vk_takeU rfl rfl rfl rfl (fun _=>hS) (fun w=>(by exact y_faz (k:=1) rfl Tryz.underlying26 rfl rfl Tryz.sizeOf23 rfl)) ?_;(iterate 2 refine km hS ?_);refine vk_takeU rfl rfl rfl rfl (fun _=>hS) (fun w=>y_mf [_] [] rfl rfl) ?_;refine vk_take rfl rfl rfl rfl hS (fun w st=>y_ld st 0 rfl Tryz.isAgg23 rfl rfl) ?_;refine vk_do rfl rfl (e_callp [_,_] rfl rfl Tryz.call37 rfl (plist_any c hR 39 (declP c.e) Tryz.call39 (hdecl c hR) (r1.length+1) r1.tail (by rw [List.length_tail];omega) hr1t _ (hC.k1 st.chg) (by exact st.rs 4)) (by rintro _ w' ⟨f,hf,rfl,ch⟩ a ha;exact And.intro ha (Or.inr ⟨_,rfl,f,by rw [hs,hf],rfl,st.chg.trans ch⟩)) ?_);rintro _ w ⟨l,r2,hx,hsfr2,hlnr2,hP1,cw,oD,cD,SD,rfl,hQ,hN⟩;have hNSD:=hN.le st.chg.size;replace st:=St.prsT (b:=c.pb) st 4 rfl cw (.inl (.head _)) hP1 (holds_dc hQ) hN.2;dsimp only [setNth] at st;rw [hx] at hs;dsimp only at hs;have hr2:=hsfr2.trans hr1t;have hll:=listP_len c.e _ declP_len _ _ _ _ (by assumption);refine vk_next st.dr ?_;intro hS;refine vk_do rfl rfl (e_appr (bytes:=32) (len':=(lk++l).length) (ys:=(lk++l).flatMap dcL) st 3 rfl rfl rfl rfl rfl (dcr_rd (st.res (i:=0) rfl).1) Tryz.underlying23 Tryz.info134 rfl rfl rfl rfl rfl (dcs_len l) (dcs_one l) (by unfold maxLen;omega) (by omega) (by simp) (by simp) ?_);intro oaQ capQ w st;dsimp only [setNth] at st;refine vk_next st.dr ?_;intro hS;refine vk_takeU rfl rfl rfl rfl (fun _=>hS) (fun w=>(by exact y_faz (k:=1) rfl Tryz.underlying26 rfl rfl Tryz.sizeOf23 rfl)) ?_;refine vk_do rfl rfl (est st 1 Tryz.sizeOf23 ?_);intro w st;dsimp only [setNth,wr] at st;refine vk_late ?_;refine vk_end ?_;refine a2 ?_;refine vq_again (sh,lk++l,r2,k,os,cs,oaQ,capQ)  ⟨rfl,rfl,rfl,trivial⟩ (st.pick [1,2,3,4,5] rfl (by decide)) ?_ ?_;exact⟨(hsfr2.trans (List.tail_suffix _)).trans hsf1,by simp;omega,by dsimp only;omega,hs⟩;dsimp only;omega;intro hc16;(try simp only [dn] at hc16);simp only [hc16,Bool.false_eq_true,if_false] at st;rw [contPg_th hc5 hc16] at hs;refine a3 ?_;refine vc_e (e_call [_,_] rfl rfl Tryz.call40 rfl (pis_any c wThread r1 hr1 _ (hC.k1 st.chg) (by exact st.rs 4)) ?_);rintro _ w ⟨rfl,cw⟩;replace st:=st.call0 cw;refine a3 ?_;refine vif ?_ ?_;intro hc27;(try simp only [dn] at hc27);replace st:=St.pushR (r:=.tree [] (fun w=>ThSs 177 144 134 w [] [] [])) st (Chg.refl _ _) (holds_thss (by simp [ThSs])) (by simp [Res.at?]);replace st:=st.ownNil 50 4;refine a2 ?_
 refine vc_loop (w0:=w0) (M:=[c.pb]) (fun (z:List Th×List Tok×Nat×Option Addr×Nat×List Value×List Nat)=>[(0,.pointer (some ⟨c.pb,0,none⟩)),(2,.pointer (some ⟨b2,0,none⟩)),(3,.pointer (some ⟨b3,0,none⟩))]) (fun z=>[.blk b3 (.cells [.slice os sh.length cs,.slice ol lk.length cl,.slice z.2.2.2.1 z.1.length z.2.2.2.2.1].toArray 26 (0,0)),.own (.slice os sh.length cs) 134 3 sh.length (sh.flatMap dcL),.own (.slice ol lk.length cl) 134 3 lk.length (lk.flatMap dcL),.own (.slice z.2.2.2.1 z.1.length z.2.2.2.2.1) 50 4 z.1.length z.2.2.2.2.2.1,.tree z.2.2.2.2.2.2 (fun w=>ThSs 177 144 134 w z.1 z.2.2.2.2.2.1 z.2.2.2.2.2.2),.blk b2 (.cells [.slice none 0 0,.slice none 0 0,.slice none 0 0].toArray 26 (0,0)),.blk c.pb (.cells (pcell c z.2.1).toArray c.T (0,0))]) (fun z _=>z.2.1 <:+ r1∧z.2.1.length+z.1.length≤r1.length∧z.2.1.length<z.2.2.1∧Nw w0.heap.size z.2.2.2.2.2.2∧contT c.e (r1.length+1) [] r1=contT c.e z.2.2.1 z.1 z.2.1) (fun z=>z.2.1.length) ([],r1,r1.length+1,none,0,[],[]) ⟨rfl,rfl,rfl,trivial⟩ (st.pick [2,3,4,0,1,5,6] rfl (by decide)) ⟨List.suffix_refl _,by simp,by simp,Nw.nil,rfl⟩ ?_;clear st;rintro ⟨acc,r2,j,ot,ct,xs,Sq⟩ w ⟨hsf2,hl2,hj2,hSq,hlo⟩ st;dsimp only at hsf2 hl2 hj2 hSq hlo st;have hr2:=hsf2.trans hr1;obtain⟨j,rfl⟩:∃ i,j=i+1:=⟨j - 1,by omega⟩
 refine a4 ?_;refine vc_e (e_call [_,_] rfl rfl Tryz.call36 rfl (ptake_any c wThread r2 hr2 _ (hC.k1 st.chg) (by exact st.rs 6)) ?_);rintro _ w ⟨rfl,hP1,cw⟩;replace st:=St.prs (b:=c.pb) st 6 rfl cw (.inl (.head _)) hP1;dsimp only [setNth] at st;refine a2 ?_;refine vif ?_ ?_;intro hc31;(try simp only [dn] at hc31);simp only [hc31,if_true] at st;have ht:=tail_lt (isT_ne hc31);have hr2t:=suf_tail hr2;rw [hlo,contT_step hc31] at hs;refine a3 ?_;refine kdr Tryz.mixed [Yt 0,Yt 2,Yt 1,Nt 3,Nt 4,Nt 5,Yt 6,Nt 7] 7 [.blk b3 (.cells [.slice os sh.length cs,.slice ol lk.length cl,.slice ot acc.length ct].toArray 26 (0,0))] st ?_;clear st;intro w st hS;refine vk_takeU rfl rfl rfl rfl (fun _=>hS) (fun w=>(by exact y_faz (k:=2) rfl Tryz.underlying26 rfl rfl Tryz.sizeOf24 rfl)) ?_;refine km hS ?_;refine vk_take rfl rfl rfl rfl hS (fun w st=>y_ld st 0 rfl Tryz.isAgg24 rfl rfl) ?_;refine vk_do rfl rfl (e_callp [_] rfl rfl Tryz.call41 rfl (pthread_any c hR hg r2.tail hr2t _ (hC.k1 st.chg) (by exact st.rs 6)) (by rintro _ w' ⟨f,hf,rfl,ch⟩ a ha;exact And.intro ha (Or.inr ⟨_,rfl,f,by rw [hs,hf],rfl,st.chg.trans ch⟩)) ?_);rintro _ w ⟨t,r3,hx,hsfr3,hlnr3,hP1,cw,tl,tb,cll,cbb,St_,rfl,hQ,hN⟩;have hNSt:=hN.le st.chg.size;replace st:=St.prsT (b:=c.pb) st 6 rfl cw (.inl (.head _)) hP1 (holds_ths hQ) hN.2;dsimp only [setNth] at st;have hx3:=hx;refine vk_next st.dr ?_;intro hS;refine vk_do rfl rfl (e_bs1 (l:=[_,_,_,_]) st rfl rfl rfl rfl Tryz.underlying24 Tryz.sizeOf50 rfl rfl rfl Tryz.zeroValue50 ?_);intro b36 w hb36 st;refine vk_next st.dr ?_;intro hS;refine vk_do rfl rfl (e_app (bytes:=72) st 5 0 rfl rfl rfl rfl rfl rfl Tryz.underlying24 Tryz.info50 rfl rfl rfl rfl rfl (by simp) rfl rfl (by unfold maxLen;omega) (by omega) ?_);intro oaQ capQ w st;dsimp only [setNth] at st;have hT2:=ThSs.snoc (st.res (i:=6) rfl).1 (st.res (i:=1) rfl).1;have hN2:=hSq.app hNSt (st.ne (i:=6) (j:=1) (by decide) rfl rfl);replace st:=((st.pick [6,1,2,3,4,5,7,8] rfl (by decide)).join (q:=.tree (Sq++St_) fun w=>ThSs 177 144 134 w (acc++[t]) (xs++thC t tl tb cll cbb) (Sq++St_)) (fun k hk=>List.mem_append.1 hk) (holds_thss hT2)).pick [1,2,3,4,0,5,6] rfl (by decide);refine vk_next st.dr ?_;intro hS;refine vk_takeU rfl rfl rfl rfl (fun _=>hS) (fun w=>(by exact y_faz (k:=2) rfl Tryz.underlying26 rfl rfl Tryz.sizeOf24 rfl)) ?_;refine vk_do rfl rfl (est st 0 Tryz.sizeOf24 ?_);intro w st;dsimp only [setNth,wr] at st;refine vk_late ?_;refine vk_end ?_;refine a1 ?_;refine vq_again (acc++[t],r3,j,oaQ,capQ,xs++thC t tl tb cll cbb,Sq++St_)  ⟨rfl,rfl,rfl,trivial⟩ (by simpa using st) ?_ ?_;exact⟨(hsfr3.trans (List.tail_suffix _)).trans hsf2,by simp;omega,by dsimp only;omega,hN2,by rw [hlo,contT_step hc31,hx3]⟩;dsimp only;omega;intro hc31;(try simp only [dn] at hc31);simp only [hc31,Bool.false_eq_true,if_false] at st;rw [hlo,contT_end hc31] at hs;dsimp only at hs;refine a7 ?_
 refine vdr0 Tryz.mixed [Yt 0,Yt 1,Yt 2,Yt 3,Yt 4,Yt 5,Yt 6,Yt 7,Yt 8,Yt 9] st ?_;clear st;intro w st hS;refine pm hS ?_;refine pnk hS ?_;refine pfz hS 1 Tryz.underlying120 Tryz.sizeOf3 ?_;refine pld hS 6 Tryz.isAgg3 ?_;refine pm hS ?_;refine pnk hS ?_;refine pf0 hS Tryz.underlying120 Tryz.sizeOf58 ?_;refine pld hS 6 Tryz.isAgg58 ?_;refine vp_take rfl rfl rfl hS (fun w st=>y_lensl rfl Tryz.underlying58) ?_;refine vp_take rfl rfl rfl hS (fun w st=>y_lss rfl rfl) ?_;refine vp_end (vq_then ?_);refine vif ?_ ?_;intro hc48;(try simp only [dn] at hc48);have h0:¬ r2.length=0:=by omega
 rw [if_neg h0] at hs;refine a2 ?_;refine vc_e (e_callp [_,_] rfl rfl Tryz.call42 rfl (pfail_any c 2 r2 hr2 _ (hC.k1 st.chg) (by exact st.rs 6) hR) (by rintro _ w' ⟨rfl,ch⟩ a ha;exact And.intro ha (Or.inr ⟨_,rfl,(atT c.e r2,2),by rw [hs];rfl,rfl,st.chg.trans ch.of_nil⟩)) (fun _ _ h=>h.elim));intro hc48;(try simp only [dn] at hc48);have h41:=hr2.length_le;have h0:r2.length=0:=by omega
 rw [if_pos h0] at hs;refine a4 ?_;refine yla st 0 [_,_,_] Tryz.isAgg26 Tryz.sizeOf26 ?_;refine vc_e (ests st 5 [_,_,_] Tryz.sizeOf26 ?_);intro w st;dsimp only [setNth,wr] at st;refine a7 ?_;refine vq_ret1 st (.inl rfl) Tryz.results18 (by exact .cell 5 rfl rfl Tryz.isAgg26 Tryz.sizeOf26) ?_;refine .inl ⟨_,rfl,?_⟩;have o1:=st.ownNw (i:=1) rfl;have o2:=st.ownNw (i:=2) rfl;have o3:=st.ownNw (i:=3) rfl;have d12:∀ k∈obk os,k∉obk ol:=fun k hk hk'=>st.ne (i:=1) (j:=2) (by decide) rfl rfl k (by simpa [Res.at?,obk_own] using hk) (by simpa [Res.at?,obk_own] using hk')
 have d13:∀ k∈obk os,k∉obk ot:=fun k hk hk'=>st.ne (i:=1) (j:=3) (by decide) rfl rfl k (by simpa [Res.at?,obk_own] using hk) (by simpa [Res.at?,obk_own] using hk')
 have d23:∀ k∈obk ol,k∉obk ot:=fun k hk hk'=>st.ne (i:=2) (j:=3) (by decide) rfl rfl k (by simpa [Res.at?,obk_own] using hk) (by simpa [Res.at?,obk_own] using hk')
 have d14:∀ k∈obk os,k∉Sq:=fun k hk=>st.ne (i:=1) (j:=4) (by decide) rfl rfl k (by simpa [Res.at?,obk_own] using hk)
 have d24:∀ k∈obk ol,k∉Sq:=fun k hk=>st.ne (i:=2) (j:=4) (by decide) rfl rfl k (by simpa [Res.at?,obk_own] using hk)
 have d34:∀ k∈obk ot,k∉Sq:=fun k hk=>st.ne (i:=3) (j:=4) (by decide) rfl rfl k (by simpa [Res.at?,obk_own] using hk)
 exact⟨⟨sh,lk,acc⟩,hs,st.chg,os,ol,ot,cs,cl,ct,obk os++(obk ol++(obk ot++Sq)),rfl,⟨os,cs,ol,cl,ot,ct,obk os,obk ol,obk ot++Sq,rfl,⟨o1.1,rfl⟩,⟨o2.1,rfl⟩,⟨xs,Sq,o3.1,rfl,(st.res (i:=4) rfl).1⟩,rfl⟩,
   o1.2.app (o2.2.app (o3.2.app hSq d34) (fun b hb hb'=>(List.mem_append.1 hb').elim (d23 b hb) (d24 b hb))) (fun b hb hb'=>(List.mem_append.1 hb').elim (d12 b hb) fun h=>(List.mem_append.1 h).elim (d13 b hb) (d14 b hb))⟩
 intro hc27;(try simp only [dn] at hc27);rw [contT_end hc27] at hs;dsimp only at hs;refine a1 ?_;refine vdr0 Tryz.mixed [Yt 0,Yt 1,Yt 2,Yt 3,Yt 4,Yt 5,Yt 6,Yt 7,Yt 8,Yt 9,Yt 10] st ?_;clear st;intro w st hS;refine pm hS ?_;refine pnk hS ?_;refine pfz hS 1 Tryz.underlying120 Tryz.sizeOf3 ?_;refine pld hS 4 Tryz.isAgg3 ?_;refine pm hS ?_;refine pnk hS ?_;refine pf0 hS Tryz.underlying120 Tryz.sizeOf58 ?_;refine pld hS 4 Tryz.isAgg58 ?_;refine vp_take rfl rfl rfl hS (fun w st=>y_lensl rfl Tryz.underlying58) ?_;refine vp_take rfl rfl rfl hS (fun w st=>y_lss rfl rfl) ?_;refine vp_take rfl rfl rfl hS (fun w st=>y_as rfl) ?_;refine vp_end (vq_then ?_);refine vif ?_ ?_;intro hc52;(try simp only [dn] at hc52);have h0:¬ r1.length=0:=by omega
 rw [if_neg h0] at hs;refine a2 ?_;refine vc_e (e_callp [_,_] rfl rfl Tryz.call42 rfl (pfail_any c 2 r1 hr1 _ (hC.k1 st.chg) (by exact st.rs 4) hR) (by rintro _ w' ⟨rfl,ch⟩ a ha;exact And.intro ha (Or.inr ⟨_,rfl,(atT c.e r1,2),by rw [hs];rfl,rfl,st.chg.trans ch.of_nil⟩)) (fun _ _ h=>h.elim));intro hc52;(try simp only [dn] at hc52);have h41:=hr1.length_le;have h0:r1.length=0:=by omega
 rw [if_pos h0] at hs;refine a2 ?_;refine yla st 0 [_,_,_] Tryz.isAgg26 Tryz.sizeOf26 ?_;refine vc_e (ests st 3 [_,_,_] Tryz.sizeOf26 ?_);intro w st;dsimp only [setNth,wr] at st;refine a7 ?_;refine vq_ret1 st (.inl rfl) Tryz.results18 (by exact .cell 3 rfl rfl Tryz.isAgg26 Tryz.sizeOf26) ?_;refine .inl ⟨_,rfl,?_⟩;have o1:=st.ownNw (i:=1) rfl;have o2:=st.ownNw (i:=2) rfl;have d12:∀ k∈obk os,k∉obk ol:=fun k hk hk'=>st.ne (i:=1) (j:=2) (by decide) rfl rfl k (by simpa [Res.at?,obk_own] using hk) (by simpa [Res.at?,obk_own] using hk')
 exact⟨⟨sh,lk,[]⟩,hs,st.chg,os,ol,none,cs,cl,0,obk os++(obk ol++[]),rfl,⟨os,cs,ol,cl,none,0,obk os,obk ol,[],rfl,⟨o1.1,rfl⟩,⟨o2.1,rfl⟩,⟨[],[],World.ownsRow_nil _ _ _ _,rfl,rfl,rfl⟩,rfl⟩,
   by rw [List.append_nil];exact o1.2.app o2.2 d12⟩
end Go.Proofs.YtkhpdpenlnhbiaaGreatDoor.Pq
namespace Go.Proofs.YtkhpdpenlnhbiaaGreatDoor
open Go.RowKit Sx LexS _root_.Go.Proofs.Tryz
set_option maxHeartbeats 1000000 in
theorem word_any (l:List UInt8) (w:World):Ret Tryz.prog 67 [str l] w fun v w'=>v=.bool (isWord l)∧w'=w:=by
 refine ret_of [_] Tryz.func67 rfl Tryz.ntmps67 rfl ?_;have st:=St.init w [];refine a16 ?_;refine a3 ?_;refine vif ?_ ?_;intro hc4;(try simp only [dn] at hc4);refine a11 ?_
 rotate_left
 focus
  intro hc4;(try simp only [dn] at hc4);refine a6 ?_;refine vif ?_ ?_;intro hc4;(try simp only [dn] at hc4);refine a11 ?_
  rotate_left
  focus
   intro hc4;(try simp only [dn] at hc4);refine a6 ?_;refine vif ?_ ?_;intro hc4;(try simp only [dn] at hc4);refine a11 ?_
   rotate_left
   focus
    intro hc4;(try simp only [dn] at hc4);refine a6 ?_;refine vif ?_ ?_;intro hc4;(try simp only [dn] at hc4);refine a11 ?_
    rotate_left
    focus
     intro hc4;(try simp only [dn] at hc4);refine a6 ?_;refine vif ?_ ?_;intro hc4;(try simp only [dn] at hc4);refine a11 ?_
     rotate_left
     focus
      intro hc4;(try simp only [dn] at hc4);refine a6 ?_;refine vif ?_ ?_;intro hc4;(try simp only [dn] at hc4);refine a11 ?_
      rotate_left
      focus
       intro hc4;(try simp only [dn] at hc4);refine a6 ?_;refine vif ?_ ?_;intro hc4;(try simp only [dn] at hc4);refine a11 ?_
       rotate_left
       focus
        intro hc4;(try simp only [dn] at hc4);refine a6 ?_;refine vif ?_ ?_;intro hc4;(try simp only [dn] at hc4);refine a11 ?_
        rotate_left
        focus
         intro hc4;(try simp only [dn] at hc4);refine a6 ?_;refine vif ?_ ?_;intro hc4;(try simp only [dn] at hc4);refine a11 ?_
         rotate_left
         focus
          intro hc4;(try simp only [dn] at hc4);refine a5 ?_;refine vif ?_ ?_;intro hc4;(try simp only [dn] at hc4);refine a8 ?_
          rotate_left
          intro hc4;(try simp only [dn] at hc4);refine a9 ?_
 all_goals
  refine vr1 st Tryz.results67 ?_;refine⟨?_,rfl⟩;rw [Value.bool.injEq]
  first
  | (symm;simp only [isWord,decide_eq_true_eq];simp only [wShared,wLock,wThread,wLocal,wIf,wElse,wWhile,wPrint,wSkip,wSwap];simp only [*,true_or,or_true];done)
  | (symm;simp only [isWord,decide_eq_false_iff_not];simp only [wShared,wLock,wThread,wLocal,wIf,wElse,wWhile,wPrint,wSkip,wSwap];simp only [*,or_self,not_false_eq_true])
end Go.Proofs.YtkhpdpenlnhbiaaGreatDoor
