/- A part of the proof: contracts of functions and plain laws; each theorem says its own conditions. -/
import Derived.Test.YtkhpdpenlnhbiaaGreatDoorTopLoweredK7
import Derived.Test.YtkhpdpenlnhbiaaGreatDoorTopLoweredK17
import Derived.Test.YtkhpdpenlnhbiaaGreatDoorTopLoweredK3
import Derived.Test.YtkhpdpenlnhbiaaGreatDoorTopLoweredK8
import Derived.Test.YtkhpdpenlnhbiaaGreatDoorTopLoweredK14
import Derived.Test.YtkhpdpenlnhbiaaGreatDoorTopLoweredK2
set_option linter.unusedVariables false
set_option linter.unusedSimpArgs false
namespace Go.Proofs.YtkhpdpenlnhbiaaGreatDoor
open Go.RowKit Sx LexS _root_.Go.Proofs.Tryz
theorem Tryz.info64:Tryz.prog.info? 64=some Tryz.t64:=by kernel_rfl
def toksL (l:List Tok):List Value:=l.flatMap tokL
theorem toksL_snoc (l:List Tok) (t:Tok):toksL (l++[t])=toksL l++tokL t:=by simp [toksL]
def NxRel (s:List UInt8) (i:Nat) (k:Int) (t:List UInt8) (wd a:Int) (ok:Bool) (j fa fr:Int):Prop:=
 (ok=true∧∃ x:Tok,i+skip (s.drop i)<s.length∧tokAt (s.drop (i+skip (s.drop i))) (i+skip (s.drop i))=.tok x∧k=x.kind∧t=x.text∧wd=x.word∧a=x.at_∧j=((i+skip (s.drop i)+x.text.length:Nat):Int)∧fa=0∧fr=0)∨
 (ok=false∧s.length≤i+skip (s.drop i)∧fa=0∧fr=0)∨
 (ok=false∧∃ rule p:Nat,i+skip (s.drop i)<s.length∧tokAt (s.drop (i+skip (s.drop i))) (i+skip (s.drop i))=.bad rule p∧fa=p∧fr=rule)
theorem nx_flat {b:Nat} {s:List UInt8} {i:Nat} {v:Value} {w':World} (h:NxPost b s i v w') :
    ∃ k t wd a ok j fa fr,v=.tuple [.agg (tok4 k t wd a).toArray,.bool ok].toArray∧w'.heap[b]?=some (scn s j fa fr)∧NxRel s i k t wd a ok j fa fr:=by
 unfold NxPost at h;split at h;rename_i hle;obtain⟨h1,j,h2⟩:=h;exact⟨0,[],0,0,false,j,0,0,h1,h2,.inr (.inl ⟨rfl,hle,rfl,rfl⟩)⟩;rename_i hlt;split at h;rename_i x hx;obtain⟨h1,h2⟩:=h;exact⟨_,_,_,_,true,_,0,0,h1,h2,.inl ⟨rfl,x,by omega,hx,rfl,rfl,rfl,rfl,rfl,rfl,rfl⟩⟩;rename_i rule p hx;obtain⟨h1,j,h2⟩:=h;exact⟨0,[],0,0,false,j,_,_,h1,h2,.inr (.inr ⟨rfl,rule,p,by omega,hx,rfl,rfl⟩)⟩
def ScanPost (s:List UInt8) (w:World) (v:Value) (w':World):Prop:=
 Chg [] w w'∧∃ oa cap,v=.tuple [.slice oa (scanRes s).1.length cap,.int .i64 ((scanRes s).2.1:Int),.agg [.int .i64 ((scanRes s).2.2.1:Int),.int .i64 ((scanRes s).2.2.2:Int)].toArray].toArray∧
  w'.ownsRow w.heap.size 64 4 (.slice oa (scanRes s).1.length cap) (scanRes s).1.length (toksL (scanRes s).1)
set_option maxHeartbeats 1000000 in
theorem scan_any (s:List UInt8) (w:World):Ret Tryz.prog 14 [str s] w (ScanPost s w):=by
 refine ret_of [_] Tryz.func14 rfl Tryz.ntmps14 rfl ?_;have st:=St.init w [];refine a4 ?_;refine vc_e (e_al (l:=[_,_]) st rfl rfl Tryz.zeroValue29 rfl ?_);intro b4 w hb4 st;refine a6 ?_;refine vy (y_lens rfl Tryz.underlying9) ?_;refine a3 ?_;refine vif ?_ ?_;intro hc11;(try simp only [dn] at hc11);refine a2 ?_;refine vy (ybd (.agg #[_,_]) []) ?_;refine a2 ?_;refine vc_e (ests st 0 [_,_] Tryz.sizeOf29 ?_);intro w st;dsimp only [setNth,wr] at st;refine a4 ?_;refine vq_ret3 st (.inl rfl) Tryz.results14 (.tmp rfl) (.tmp rfl) (by exact .cell 0 rfl rfl Tryz.isAgg29 Tryz.sizeOf29) ?_;refine⟨_,rfl,?_⟩;have e:scanRes s=([],4,0,0):=by unfold scanRes;rw [if_pos (by omega)]
 refine⟨st.chg,none,0,?_,?_⟩;rw [e];rfl;rw [e];exact World.ownsRow_nil _ _ _ _;intro hc11;(try simp only [dn] at hc11);replace st:=st.ownNil 64 4;refine a5 ?_;refine vy (ybd (.agg #[_,_,_,_]) [(0,_)]) ?_;refine vc_e (e_bx (l:=[_,_,_,_]) st rfl rfl rfl rfl ?_);intro b15 w hb15 st;refine a10 ?_;refine vc_loop (w0:=_) (M:=_) (fun (x:List Tok×Nat×Option Addr×Nat)=>[(4,.pointer (some ⟨b4,0,none⟩)),(5,.pointer (some ⟨b15,0,none⟩)),(6,.slice x.2.2.1 x.1.length x.2.2.2)]) (fun x=>[.blk b15 (scn s x.2.1 0 0),.own (.slice x.2.2.1 x.1.length x.2.2.2) 64 4 x.1.length (toksL x.1),.blk b4 (.cells [.int .i64 0,.int .i64 0].toArray 29 (0,0))]) (fun x _=>x.2.1≤s.length∧x.1.length≤x.2.1∧(front s).1=x.1++(scanA (s.drop x.2.1) x.2.1).1∧(front s).2=(scanA (s.drop x.2.1) x.2.1).2) (fun x=>s.length - x.2.1) ([],0,none,0) ⟨rfl,rfl,rfl,trivial⟩ st ⟨by simp,by simp,by simp [front_eq],by simp [front_eq]⟩ ?_;rintro ⟨l,i,oa,cap⟩ w ⟨hi,hli,hf1,hf2⟩ st;dsimp only at *;refine a4 ?_;refine vc_e (e_call [_] rfl rfl Tryz.call35 rfl (next_any b15 s i _ (st.res (i:=0) rfl) hi (by omega)) ?_);rintro _ w ⟨cw,hp⟩;obtain⟨k,t,wd,a,ok,j,fa,fr,rfl,hw,hrel⟩:=nx_flat hp;replace st:=st.turn (i:=0) (r':=.blk b15 _) rfl rfl rfl cw (.inr (by assumption)) hw;dsimp only [setNth] at st;refine a3 ?_;refine vc_e (e_al (l:=[_,_,_,_]) st rfl rfl Tryz.zeroValue64 rfl ?_);intro b7 w hb7 st;refine vc_e (ests st 0 [_,_,_,_] Tryz.sizeOf64 ?_);intro w st;dsimp only [setNth,wr] at st;refine a10 ?_;refine vif ?_ ?_;intro hc22;(try simp only [dn] at hc22);refine a11 ?_;refine yfz 2 Tryz.underlying113 Tryz.sizeOf29 ?_;refine vy (y_fa (k:=1) rfl Tryz.underlying29 rfl rfl Tryz.sizeOf3 rfl) ?_;refine yl st 1 Tryz.isAgg3 ?_;refine a3 ?_;refine vif ?_ ?_;intro hc32;(try simp only [dn] at hc32);refine a1 ?_;refine vdr Tryz.mixed [Yt 0,Yt 1,Yt 2,Yt 3,Yt 4,Yt 5,Nt 6] [.blk b15 (scn s j fa fr)] st ?_;clear st;intro w st hS;refine pm hS ?_;refine pnk hS ?_;refine pfz hS 2 Tryz.underlying113 Tryz.sizeOf29 ?_;refine vp_take rfl rfl rfl hS (fun w st=>y_lda (vs:=[_,_]) st 0 rfl Tryz.isAgg29 Tryz.sizeOf29 rfl rfl) ?_;(iterate 2 refine vp_take rfl rfl rfl hS (fun w st=>y_as rfl) ?_);refine vp_do rfl (ests st 3 [_,_] Tryz.sizeOf29 ?_);intro w st;dsimp only [setNth,wr] at st;refine vp_next st.dr ?_;intro hS;refine vp_end (vq_then (vc_ret (vq_then_ret ?_)));refine vq_ret3 st (.inl rfl) Tryz.results14 (.tmp rfl) (.tmp rfl) (by exact .cell 3 rfl rfl Tryz.isAgg29 Tryz.sizeOf29) ?_;refine⟨_,rfl,?_⟩;rcases hrel with ⟨h,_⟩|⟨_,_,_,h⟩|⟨_,rule,p,hlt,hx,rfl,rfl⟩
 simp [h] at hc22;exact absurd h hc32;have hsc:=scanA_bad (r:=s.drop i) (i:=i) (by simp;omega) (by rw [List.drop_drop];exact hx);have e:scanRes s=([],20,p,rule):=by unfold scanRes;rw [if_neg (by omega),hf2,hsc]
 refine⟨st.chg,none,0,?_,?_⟩;rw [e];rfl;rw [e];exact World.ownsRow_nil _ _ _ _;intro hc32;(try simp only [dn] at hc32);refine a5 ?_;refine vy (ybd (.agg #[_,_]) []) ?_;refine a2 ?_;refine vc_e (ests st 3 [_,_] Tryz.sizeOf29 ?_);intro w st;dsimp only [setNth,wr] at st;refine a3 ?_;refine vq_ret3 st (.inl rfl) Tryz.results14 (.tmp rfl) (.tmp rfl) (by exact .cell 3 rfl rfl Tryz.isAgg29 Tryz.sizeOf29) ?_;refine⟨_,rfl,?_⟩;rcases hrel with ⟨h,_⟩|⟨_,hle,_,h⟩|⟨_,rule,p,hlt,hx,rfl,rfl⟩
 simp [h] at hc22;have hsc:=scanA_end (r:=s.drop i) (i:=i) (by simp;omega);have e:scanRes s=(l,0,0,0):=by unfold scanRes;rw [if_neg (by omega),hf2,hsc,hf1,hsc];simp
 refine⟨st.chg,oa,cap,?_,?_⟩;rw [e];rfl;rw [e];exact st.res (i:=2) rfl;have:=bad_rule hx;omega;intro hc22;(try simp only [dn] at hc22);refine a4 ?_;refine yla st 0 [_,_,_,_] Tryz.isAgg64 Tryz.sizeOf64 ?_;refine vc_e (e_bs1 (l:=[_,_,_,_]) st rfl rfl rfl rfl Tryz.underlying58 Tryz.sizeOf64 rfl rfl rfl Tryz.zeroValue64 ?_);intro b25 w hb25 st;refine vc_e (e_app (bytes:=40) st 3 0 rfl rfl rfl rfl rfl rfl Tryz.underlying58 Tryz.info64 rfl rfl rfl rfl rfl (by simp) rfl rfl (by unfold maxLen;omega) (by omega) ?_);intro oa26 cap26 w st;dsimp only [setNth] at st;refine a3 ?_;rcases hrel with ⟨_,x,hlt,hx,rfl,rfl,rfl,rfl,rfl,rfl,rfl⟩|⟨h,_⟩|⟨h,_⟩
 have hx1:=tok_len hx;have hxl:x.text.length≤s.length - (i+skip (List.drop i s)):=by have h:=congrArg List.length hx1.2.1;simp at h;omega
 have hsc:=scanA_tok (r:=s.drop i) (i:=i) (by simp;omega) (by rw [List.drop_drop];exact hx);rw [List.drop_drop,← Nat.add_assoc] at hsc;refine vq_again (l++[x],i+skip (List.drop i s)+x.text.length,oa26,cap26) ⟨rfl,rfl,by simp only [List.length_append,List.length_cons,List.length_nil];rfl,trivial⟩ ?_ ⟨by dsimp only;omega,by simp;omega,?_,?_⟩ (by dsimp only;omega);simp only [List.length_append,List.length_cons,List.length_nil,toksL_snoc];exact st.dr;rw [hf1,hsc];simp;rw [hf2,hsc];simp [h] at hc22;simp [h] at hc22
end Go.Proofs.YtkhpdpenlnhbiaaGreatDoor
/- The tokens of a text: how many,and of what kinds. -/
namespace ParS
open Sx LexS
theorem numV_le {l:List UInt8} {n:Nat} (h:numV l=some n):n≤9223372036854775807:=by
  unfold numV at h
  split at h
  · cases h
  · rename_i hc
    cases h
    rw [not_or,not_or,not_or] at hc
    omega
theorem scan_ok:∀ (T:List Tok) (r:List UInt8) (i:Nat) (f:Option (Nat×Nat)),scanA r i=(T,f)→T.length≤r.length∧∀ t∈T,(t.kind=1→isName t.text=true)∧t.word≤9223372036854775807∧t.at_≤i+r.length
  | [],r,i,f,h=>⟨Nat.zero_le _,by simp⟩
  | t::T,r,i,f,h=>by
    obtain⟨h1,h2,h3⟩:=scan_inv h
    obtain⟨h4,h5,h6⟩:=tok_len h2
    obtain⟨h7,h8⟩:=scan_ok T _ _ _ h3
    rw [List.length_drop] at h7 h8
    have h9:t.text.length≤r.length - skip r:=by
      have:=congrArg List.length h5
      rw [List.length_take,List.length_drop] at this
      omega
    refine⟨by simp only [List.length_cons];omega,fun x hx=>?_⟩
    rcases List.mem_cons.1 hx with rfl|hx
    · refine⟨fun hk=>?_,?_,by omega⟩
      · rcases tok_right h2 with h|h|h|h
        · exact h.2.1
        · omega
        · omega
        · omega
      · rcases tok_right h2 with h|h|h|h
        · omega
        · omega
        · exact numV_le h.2
        · omega
    · obtain⟨a,b,c⟩:=h8 x hx
      exact⟨a,b,by omega⟩
theorem front_ok {s:List UInt8} {T:List Tok} {f:Option (Nat×Nat)} (h:front s=(T,f)):T.length≤s.length∧∀ t∈T,(t.kind=1→isName t.text=true)∧t.word≤9223372036854775807∧t.at_≤s.length:=by
  rw [front_eq] at h
  have:=scan_ok T s 0 f h
  simpa using this
end ParS
namespace Go.Proofs.YtkhpdpenlnhbiaaGreatDoor.Pq
open Go.RowKit Sx LexS ParS _root_.Go.Proofs.Tryz
theorem toks_chunk:∀ {ts:List Tok} {j:Nat} {t:Tok},ts[j]?=some t→((toksL ts).drop (j*4)).take 4=tkL t
 | [],j,t,h=>by simp at h
 | x::r,0,t,h=>by
  simp only [List.getElem?_cons_zero,Option.some.injEq] at h
  subst h
  simp [toksL,tokL]
 | x::r,j+1,t,h=>by
  have e:toksL (x::r)=tokL x++toksL r:=by simp [toksL]
  rw [e,show (j+1)*4=(tokL x).length+j*4 by simp [tokL];omega,← List.drop_drop,List.drop_left]
  exact toks_chunk (by simpa using h)
structure PNew (s:List UInt8) (n:Nat) (c:PCtx) (w':World):Prop where
 R:c.R=69
 g:c.g=1
 ts:c.ts=(front s).1
 e:c.e=s.length
 n0:c.n0=c.pb
 own:w'.ownsRow n 64 4 (.slice c.oa c.ts.length c.cap) c.ts.length (toksL c.ts)
 at_:PAt c c.ts w'
 le:n≤c.pb
 lt:∀ b∈obk c.oa,b<c.pb
 slen:s.length≤65536
theorem PNew.ok {s:List UInt8} {n base:Nat} {c:PCtx} {r:List Tok} {w w':World} (h:PNew s n c w) (hrow:w'.ownsRow base 64 4 (.slice c.oa c.ts.length c.cap) c.ts.length (toksL c.ts)) (hs:SigAt 1 w') (hp:PAt c r w') (h0:1<n):PCok c w':=by
 obtain⟨hlen,hok⟩:=front_ok (s:=s) (T:=(front s).1) (f:=(front s).2) rfl;rw [← h.ts] at hlen hok;have:=h.slen;refine⟨?_,by rw [h.n0];exact Nat.le_refl _,by rw [h.g,h.n0];exact Nat.lt_of_lt_of_le h0 h.le,by omega,by rw [h.e];omega,by rw [h.g];exact hs,by rw [h.n0];exact Nat.le_of_lt (Array.getElem?_eq_some_iff.1 hp).1,fun t ht=>(hok t ht).2.1⟩;refine(rowC_own (S:=(·<c.n0)) (owns_mono hrow (fun b _=>Nat.zero_le _)) (fun b hb=>by rw [h.n0];exact h.lt b hb)).imp id fun ⟨g,off,e1,hb,hl,hc⟩=>⟨g,off,e1,hb,hl,fun j hj=>?_⟩
 have:=hc j hj;dsimp only at this;rw [toks_chunk (List.getElem?_eq_getElem hj)] at this;simpa only [List.getD,List.getElem?_eq_getElem hj,Option.getD_some] using this
def BegunPost (s:List UInt8) (w:World) (v:Value) (w':World):Prop:=Chg [] w w'∧
 ((65536<s.length∧v=.tuple #[.pointer none,.int .i64 4,.agg #[.int .i64 0,.int .i64 0]])∨
  (s.length≤65536∧∃ rule p:Nat,(front s).2=some (rule,p)∧v=.tuple #[.pointer none,.int .i64 30,.agg #[.int .i64 (p:Int),.int .i64 1]])∨
  (s.length≤65536∧(front s).2=none∧∃ c,PNew s w.heap.size c w'∧v=.tuple #[.pointer (some ⟨c.pb,0,none⟩),.int .i64 0,.agg #[.int .i64 0,.int .i64 0]]))
theorem begun_any (s:List UInt8) (w:World) (hs:SigAt 1 w):Ret Tryz.prog 16 [str s] w (BegunPost s w):=by
 refine ret_of [_] Tryz.func16 rfl Tryz.ntmps16 rfl ?_;have st:=St.init w [];obtain⟨w0,rfl⟩:∃ w0,w0=w:=⟨_,rfl⟩
 refine a4 ?_;refine vc_e (e_al (l:=[_,_]) st rfl rfl Tryz.zeroValue29 rfl ?_);intro b4 w hb4 st;refine a5 ?_;refine vc_e (e_call [_] rfl rfl Tryz.call14 rfl (scan_any s _) ?_);rintro _ w ⟨cw,tq,tc,rfl,hown⟩;replace st:=St.pushOwn st cw hown;obtain⟨T,e,pl,ru,hT⟩:∃ T e pl ru,scanRes s=(T,e,pl,ru):=⟨_,_,_,_,rfl⟩
 rw [hT] at st hown ⊢;dsimp only at st hown ⊢;refine a4 ?_;refine vc_e (e_al (l:=[_,_]) st rfl rfl Tryz.zeroValue29 rfl ?_);intro b7 w hb7 st;refine a2 ?_;refine vc_e (ests st 0 [_,_] Tryz.sizeOf29 ?_);intro w st;dsimp only [setNth,wr] at st;refine a15 ?_;refine vif ?_ ?_;intro hc15;(try simp only [dn] at hc15);have he:e=0:=by omega
 subst he
 have hsc:s.length≤65536∧(front s).2=none∧T=(front s).1:=by
  unfold scanRes at hT
  split at hT
  ·cases hT
  ·rename_i hl
   split at hT
   ·rename_i hf;simp only [Prod.mk.injEq] at hT;exact⟨by omega,hf,hT.1.symm⟩
   ·cases hT
 obtain⟨hle,hfr,rfl⟩:=hsc;obtain⟨hlen,hok⟩:=front_ok (s:=s) (T:=(front s).1) (f:=(front s).2) rfl;refine a4 ?_;refine vy (y_lens rfl Tryz.underlying9) ?_;refine vy (ybd (.agg #[_,_,_]) [(0,_),(2,_)]) ?_;have hbt:∀ b∈obk tq,b<w.heap.size:=fun b hb=>(owns_lt (st.res (i:=1) rfl) b hb).2
 refine vc_e (e_bxn (l:=[_,_,_]) st rfl rfl rfl rfl ?_);intro b21 w hbe hb21 st;refine vy (ybd (.agg #[_,_]) []) ?_;refine a2 ?_;refine vc_e (ests st 3 [_,_] Tryz.sizeOf29 ?_);intro w st;dsimp only [setNth,wr] at st;refine a5 ?_;refine vq_ret3 st (.inl rfl) Tryz.results16 (.tmp rfl) (.tmp rfl) (by exact .cell 3 rfl rfl Tryz.isAgg29 Tryz.sizeOf29) ?_;refine⟨_,rfl,?_⟩;refine⟨st.chg,.inr (.inr ⟨hle,hfr,⟨b21,b21,tq,tc,(front s).1,s.length,120,69,1⟩,⟨rfl,rfl,rfl,rfl,rfl,st.res (i:=2) rfl,?_,hb21,?_,hle⟩,rfl⟩)⟩;show w.heap[b21]?=_;have h2:w.heap[b21]?=some (.cells [.slice tq (front s).1.length tc,.int .i64 0,.int .i64 (s.length:Int)].toArray 120 (0,0)):=st.res (i:=0) rfl;rw [h2];simp [pcell];intro b hb;show b<b21;rw [hbe];exact hbt b hb;intro hc15;(try simp only [dn] at hc15);refine a6 ?_;refine vif ?_ ?_;intro hc23;(try simp only [dn] at hc23);have he:e=4:=by omega
 have hsc:65536<s.length:=by
  unfold scanRes at hT
  split at hT
  ·assumption
  ·split at hT
   ·simp only [Prod.mk.injEq] at hT;omega
   ·simp only [Prod.mk.injEq] at hT;omega
 refine a3 ?_;refine vy (ybd (.agg #[_,_]) []) ?_;refine a2 ?_;refine vc_e (ests st 2 [_,_] Tryz.sizeOf29 ?_);intro w st;dsimp only [setNth,wr] at st;refine a5 ?_;refine vq_ret3 st (.inl rfl) Tryz.results16 (.tmp rfl) (.tmp rfl) (by exact .cell 2 rfl rfl Tryz.isAgg29 Tryz.sizeOf29) ?_;refine⟨_,rfl,?_⟩;refine⟨st.chg,.inl ⟨hsc,?_⟩⟩;rw [he];rfl;intro hc23;(try simp only [dn] at hc23)
 have hsc:s.length≤65536∧(front s).2=some (ru,pl):=by
  unfold scanRes at hT
  split at hT
  ·simp only [Prod.mk.injEq] at hT;omega
  ·rename_i hl
   split at hT
   ·simp only [Prod.mk.injEq] at hT;omega
   ·rename_i hf;simp only [Prod.mk.injEq] at hT
    obtain⟨-,-,rfl,rfl⟩:=hT
    exact⟨by omega,hf⟩
 refine a4 ?_;refine vdr Tryz.mixed [Yt 0,Yt 1,Yt 2,Yt 3,Yt 4,Nt 5] [.blk b7 (.cells [.int .i64 (pl:Int),.int .i64 (ru:Int)].toArray 29 (0,0))] st ?_;clear st;intro w st hS;refine pf0 hS Tryz.underlying29 Tryz.sizeOf3 ?_;refine pld hS 0 Tryz.isAgg3 ?_;refine vp_take rfl rfl rfl hS (fun w st=>ybd (.agg #[_,_]) [(0,_),(1,_)]) ?_;(iterate 2 refine vp_take rfl rfl rfl hS (fun w st=>y_as rfl) ?_);refine vp_do rfl (ests st 2 [_,_] Tryz.sizeOf29 ?_);intro w st;dsimp only [setNth,wr] at st;refine vp_next st.dr ?_;intro hS;refine vp_end (vq_then (vc_ret ?_));refine vq_ret3 st (.inl rfl) Tryz.results16 (.tmp rfl) (.tmp rfl) (by exact .cell 2 rfl rfl Tryz.isAgg29 Tryz.sizeOf29) ?_;refine⟨_,rfl,?_⟩;exact⟨st.chg,.inr (.inl ⟨hsc.1,ru,pl,hsc.2,rfl⟩)⟩
end Go.Proofs.YtkhpdpenlnhbiaaGreatDoor.Pq
namespace Go.Proofs.YtkhpdpenlnhbiaaGreatDoor.Pq
open Go.RowKit Sx LexS ParS _root_.Go.Proofs.Tryz
abbrev pg00:List Value:=[.slice none 0 0,.slice none 0 0,.slice none 0 0]
set_option maxHeartbeats 1000000 in
theorem parse_catch (b2 b3 b4 p ru:Nat) (e:Int) (w:World) (h2:w.heap[b2]?=some (.cells pg00.toArray 26 (0,0))) (h3:w.heap[b3]?=some (.cells [.int .i64 e].toArray 27 (0,0))) (h4:w.heap[b4]?=some (.cells [.int .i64 0,.int .i64 0].toArray 29 (0,0)))
    (n1:b2≠b3) (n2:b2≠b4) (n3:b3≠b4):DefCatch Tryz.prog 17 [.pointer (some ⟨b2,0,none⟩),.pointer (some ⟨b3,0,none⟩),.pointer (some ⟨b4,0,none⟩)].toArray (.iface 69 (.agg #[.int .i64 (p:Int),.int .i64 (ru:Int)])) w
  (fun w'=>w'.heap[b2]?=some (.cells pg00.toArray 26 (0,0))∧w'.heap[b3]?=some (.cells [.int .i64 30].toArray 27 (0,0))∧w'.heap[b4]?=some (.cells [.int .i64 (p:Int),.int .i64 (ru:Int)].toArray 29 (0,0))∧Chg [b2,b3,b4] w w'):=by
 refine callsD_of_wpS Tryz.func17 rfl fun c₀ cs hu=>?_
 have st:=St.of3 [b2,b3,b4] h2 h3 h4 n1 n2 n3;apply wpS_seq;apply wpS_region;simp [wpOpsS,go_sem,recoverD,hu,Tryz.ntmps17,Exit.thenS];apply wpS_seq;apply wpS_region;simp [wpOpsS,go_sem,Exit.thenS];refine wpS_cond (t:=true) (by simp [Act.eval,Array.replicate]) ?_;simp only [if_true];refine wpS_of_wp ?_;refine wp_of_vc (n:=(11,[])) (kn:=[(0,.pointer (some ⟨b2,0,none⟩)),(1,.pointer (some ⟨b3,0,none⟩)),(2,.pointer (some ⟨b4,0,none⟩)),(3,.iface 69 (.agg #[.int .i64 (p:Int),.int .i64 (ru:Int)]))]) (K.of (by rfl) ?_) ?_
 ·intro i v hv;simp only [find] at hv
  repeat' split at hv
  all_goals first|(rename_i hh;have hh':=Nat.eq_of_beq_eq_true hh;subst hh';cases hv;rfl)|simp at hv
 refine ddr Tryz.mixed (.take 0 (.take 1 (.two 2 4 (.take 3 (.one 4 (.one 5 (.one 6 .done)))) (.two 2 5 (.take 3 (.one 5 (.one 6 .done))) (.one 2 (.take 3 (.one 6 .done))))))) [] st ?_;clear st;intro w st hS;refine vd_take rfl rfl rfl hS (fun w st=>ybd (.agg #[_,_,_]) []) ?_;refine dm hS ?_;refine vd_two rfl rfl ?_ ?_;refine(e_run rfl rfl (y_ta rfl Tryz.underlying69) ?_);refine vd_next st.dr ?_;intro hS;refine vd_take rfl rfl rfl hS (fun w st=>y_fldA (vs:=[_,_]) rfl Tryz.underlying69 rfl rfl Tryz.isAgg29 Tryz.sizeOf29 rfl) ?_;refine vd_do rfl (ests st 0 [_,_,_] Tryz.sizeOf26 ?_);intro w st;refine vd_next st.dr ?_;intro hS;refine vd_do rfl (est st 1 Tryz.sizeOf27 ?_);intro w st;refine vd_next st.dr ?_;intro hS
 rotate_left
 focus
  refine(ests st 0 [_,_,_] Tryz.sizeOf26 ?_);intro w st;refine vd_next st.dr ?_;intro hS;refine vd_two rfl rfl ?_ ?_;refine(e_run rfl rfl (y_ta rfl Tryz.underlying69) ?_);refine vd_next st.dr ?_;intro hS;refine vd_take rfl rfl rfl hS (fun w st=>y_fldA (vs:=[_,_]) rfl Tryz.underlying69 rfl rfl Tryz.isAgg29 Tryz.sizeOf29 rfl) ?_;refine vd_do rfl (est st 1 Tryz.sizeOf27 ?_);intro w st;refine vd_next st.dr ?_;intro hS
  rotate_left
  refine(est st 1 Tryz.sizeOf27 ?_);intro w st;refine vd_next st.dr ?_;intro hS;refine vd_do rfl (e_run rfl rfl (y_ta rfl Tryz.underlying69) ?_);refine vd_next st.dr ?_;intro hS;refine vd_take rfl rfl rfl hS (fun w st=>y_fldA (vs:=[_,_]) rfl Tryz.underlying69 rfl rfl Tryz.isAgg29 Tryz.sizeOf29 rfl) ?_
 all_goals
  refine vd_do rfl (ests st 2 [_,_] Tryz.sizeOf29 ?_);intro w st;refine vd_next st.dr ?_;intro hS;refine vd_end ?_;intro a ha;exact⟨ha.defers,_,rfl,.tuple #[],by simp [results,Tryz.results17],⟨_,rfl⟩,rfl,by first|exact⟨st.res (i:=0) rfl,st.res (i:=1) rfl,st.res (i:=2) rfl,st.chg⟩⟩
end Go.Proofs.YtkhpdpenlnhbiaaGreatDoor.Pq
namespace Go.Proofs.YtkhpdpenlnhbiaaGreatDoor.Pq
open Go.RowKit Sx LexS ParS _root_.Go.Proofs.Tryz
theorem parse_idle (args:List Value) (h3:args.length=3) (w:World):DefIdle Tryz.prog 17 args.toArray w (fun w'=>w'=w):=by
 refine callsD_of_wpS Tryz.func17 rfl fun c₀ cs hu=>?_
 obtain⟨x,y,z,rfl⟩:∃ x y z,args=[x,y,z]:=by
  match args,h3 with
  | [x,y,z],_=>exact⟨x,y,z,rfl⟩
 apply wpS_seq;apply wpS_region;simp [wpOpsS,go_sem,recoverD,hu,Tryz.ntmps17,Exit.thenS];apply wpS_seq;apply wpS_region;simp [wpOpsS,go_sem,Exit.thenS];refine wpS_cond (t:=false) (by simp [Act.eval,Array.replicate]) ?_;simp only [Bool.false_eq_true,if_false];refine wpS_of_wp (wp_skip ?_);cases c₀
 simp_all [bodyPostS,results,Tryz.results17]
theorem _root_.Sx.St.push2 {w w' w0:World} {M:List Nat} {hs:List Res} (st:St w0 M hs w) (c:Chg [] w w') {r q:Res} (hr:r.holds w0.heap.size w') (hq:q.holds w0.heap.size w') (hat:∀ k∈r.at?,w.heap.size≤k) (hat':∀ k∈q.at?,w.heap.size≤k) (hd:∀ k∈r.at?,k∉q.at?):St w0 M (r::q::hs) w':=by
 have st1:=st.pushR c hq hat';refine⟨st1.chg,List.pairwise_cons.2 ⟨fun x hx k hk hk'=>?_,st1.nodup⟩,fun x hx=>?_⟩;rcases List.mem_cons.1 hx with rfl|h;exact hd k hk hk';exact absurd (st.lt h hk') (by have:=hat k hk;omega);rcases List.mem_cons.1 hx with rfl|h;exact hr;exact st1.here x h
theorem _root_.Sx.St.pnew {s:List UInt8} {c:PCtx} {w w' w0:World} {M:List Nat} {hs:List Res} (st:St w0 M hs w) (ch:Chg [] w w') (h:PNew s w.heap.size c w') :
    St w0 M (.blk c.pb (.cells (pcell c c.ts).toArray c.T (0,0))::.own (.slice c.oa c.ts.length c.cap) 64 4 c.ts.length (toksL c.ts)::hs) w':=
 st.push2 ch h.at_ (ownsRow_base h.own st.chg.size) (by simpa [Res.at?] using h.le) (fun k hk=>(World.ownsRow.lt h.own k (by simpa [Res.at?] using hk)).1)
  (fun k hk=>by
    simp only [Res.at?,List.mem_singleton] at hk
    subst hk
    intro hk'
    simp only [Res.at?,obk_own] at hk'
    exact absurd (h.lt _ hk') (Nat.lt_irrefl _))
def ParsePost (s:List UInt8) (w:World) (v:Value) (w':World):Prop:=Chg [] w w'∧∃ vp,HP w (parseRes s).1 vp w'∧v=.tuple #[vp,.int .i64 ((parseRes s).2.1:Int),.agg #[.int .i64 ((parseRes s).2.2.1:Int),.int .i64 ((parseRes s).2.2.2:Int)]]
theorem hp_none (w0:World) (w':World):HP w0 pg0 (.agg pg00.toArray) w':=
 ⟨none,none,none,0,0,0,[],rfl,⟨none,0,none,0,none,0,[],[],[],rfl,⟨World.ownsRow_nil _ _ _ _,rfl⟩,⟨World.ownsRow_nil _ _ _ _,rfl⟩,⟨[],[],World.ownsRow_nil _ _ _ _,rfl,rfl,rfl⟩,rfl⟩,Nw.nil⟩
theorem _root_.Sx.holds_pg {tE tS tD tT base:Nat} {w:World} {q:Pg} {l:List Value} {S:List Nat} (h:PgS tE tS tD tT w q l S):(Res.tree S fun w=>PgS tE tS tD tT w q l S).holds base w:=holds_of h h.lt (fun a b h hk=>h.kept hk)
theorem parse_pan {s:List UInt8} {w0 w:World} {b2 b3 b4:Nat} {f:Flt} {kn:Kn} (h2:w.heap[b2]?=some (.cells pg00.toArray 26 (0,0))) (h3:w.heap[b3]?=some (.cells [.int .i64 0].toArray 27 (0,0))) (h4:w.heap[b4]?=some (.cells [.int .i64 0,.int .i64 0].toArray 29 (0,0)))
    (n1:b2≠b3) (n2:b2≠b4) (n3:b3≠b4) (l2:w0.heap.size≤b2) (l3:w0.heap.size≤b3) (l4:w0.heap.size≤b4) (ch:Chg [] w0 w) (hpr:parseRes s=(pg0,30,f.1,f.2))
  (k2:find kn 2=some (.pointer (some ⟨b2,0,none⟩))) (k3:find kn 3=some (.pointer (some ⟨b3,0,none⟩))) (k4:find kn 4=some (.pointer (some ⟨b4,0,none⟩))) :
  PanK (21,[⟨.fn (.func 17) (List.toArray [.pointer (some ⟨b2,0,none⟩),.pointer (some ⟨b3,0,none⟩),.pointer (some ⟨b4,0,none⟩)]),#[]⟩]) kn (bodyPostD Tryz.prog Tryz.f5 fun e w'=>∃ v,e=.returned v∧ParsePost s w0 v w') (.iface 69 (.agg #[.int .i64 (f.1:Int),.int .i64 (f.2:Int)])) w:=by
 refine pan_leave Tryz.call17 (parse_catch b2 b3 b4 f.1 f.2 _ w h2 h3 h4 n1 n2 n3) (fun w2 hc=>?_);obtain⟨g2,g3,g4,c2⟩:=hc;have st2:=St.of3 [] g2 g3 g4 n1 n2 n3;refine⟨_,results3 st2 Tryz.results5 (.cell 0 k2 rfl Tryz.isAgg26 Tryz.sizeOf26) (.cell1 1 k3 rfl Tryz.isAgg27 rfl) (.cell 2 k4 rfl Tryz.isAgg29 Tryz.sizeOf29),_,rfl,ch.trans' c2 (by simp [l2,l3,l4]),?_⟩;rw [hpr];exact⟨_,hp_none _ _,rfl⟩
set_option maxHeartbeats 1000000 in
theorem parse_any (s:List UInt8) (w:World) (hsg:SigAt 1 w):Ret Tryz.prog 5 [str s] w (ParsePost s w):=by
 refine retd_of [_] Tryz.func5 rfl Tryz.ntmps5 rfl ?_;have st:=St.init w [];obtain⟨w0,rfl⟩:∃ w0,w0=w:=⟨_,rfl⟩
 have h0:1<w0.heap.size:=World.block_lt_of_cell? w0 _ (hsg 0 (by omega)).1;refine a2 ?_;refine vc_e (e_al (l:=[_,_,_]) st rfl rfl Tryz.zeroValue26 rfl ?_);intro b2 w hb2 st;refine vc_e (e_al (l:=[_]) st rfl rfl Tryz.zeroValue27 rfl ?_);intro b3 w hb3 st;refine vc_e (e_al (l:=[_,_]) st rfl rfl Tryz.zeroValue29 rfl ?_);intro b4 w hb4 st;refine a5 ?_;have n43:=st.bne 0 1 (by decide) rfl rfl;have n42:=st.bne 0 2 (by decide) rfl rfl;have n32:=st.bne 1 2 (by decide) rfl rfl;have n34:=Ne.symm n43;have n24:=Ne.symm n42;have n23:=Ne.symm n32;have hw1:=st.chg.size;refine vc_e (e_call [_] rfl rfl Tryz.call16 rfl (begun_any s _ (hsg.kept st.chg (by simp))) ?_);rintro _ w ⟨cw,hb⟩;rcases hb with ⟨hl,rfl⟩|⟨hl,ru,pl,hfr,rfl⟩|⟨hl,hfr,c,hn,rfl⟩
 replace st:=st.call0 cw;have hpr:parseRes s=(pg0,4,0,0):=by simp [parseRes,hl]
 refine a5 ?_;refine vc_e (est st 1 Tryz.sizeOf27 ?_);intro w st;refine vc_e (ests st 0 [_,_] Tryz.sizeOf29 ?_);intro w st;refine a5 ?_;refine yl st 1 Tryz.isAgg27 ?_;refine a3 ?_;refine vif ?_ ?_;intro hc13;refine a1 ?_;refine vc_noPan ?_;refine vdr0 Tryz.mixed [Yt 0,Yt 1,Yt 2,Nt 3,Nt 4,Nt 5] st ?_;clear st;intro w st hS;refine vp_take rfl rfl rfl hS (fun w st=>y_lda (vs:=[_,_,_]) st 2 rfl Tryz.isAgg26 Tryz.sizeOf26 rfl rfl) ?_;refine pld hS 1 Tryz.isAgg27 ?_;refine vp_take rfl rfl rfl hS (fun w st=>y_lda (vs:=[_,_]) st 0 rfl Tryz.isAgg29 Tryz.sizeOf29 rfl rfl) ?_;refine vp_do rfl (ests st 2 [_,_,_] Tryz.sizeOf26 ?_);intro w st;refine vp_next (by exact st) ?_;intro hS;refine vp_do rfl (est st 1 Tryz.sizeOf27 ?_);intro w st;refine vp_next (by exact st) ?_;intro hS;refine vp_do rfl (ests st 0 [_,_] Tryz.sizeOf29 ?_);intro w st;refine vp_next (by exact st) ?_;intro hS;refine vp_end ?_;refine vq_noPan ?_;refine a3 ?_;refine vqd_post (.inl rfl) (results3 st Tryz.results5 (.cell 2 rfl rfl Tryz.isAgg26 Tryz.sizeOf26) (.cell1 1 rfl rfl Tryz.isAgg27 rfl) (.cell 0 rfl rfl Tryz.isAgg29 Tryz.sizeOf29)) ?_;refine⟨_,rfl,st.chg,?_⟩;rw [hpr];exact⟨_,hp_none _ _,rfl⟩;intro hc13;exact absurd hc13 (by decide);replace st:=st.call0 cw;have hpr:parseRes s=(pg0,30,pl,1):=by simp [parseRes,Nat.not_lt.2 hl,hfr]
 refine a5 ?_;refine vc_e (est st 1 Tryz.sizeOf27 ?_);intro w st;refine vc_e (ests st 0 [_,_] Tryz.sizeOf29 ?_);intro w st;refine a5 ?_;refine yl st 1 Tryz.isAgg27 ?_;refine a3 ?_;refine vif ?_ ?_;intro hc13;refine a1 ?_;refine vc_noPan ?_;refine vdr0 Tryz.mixed [Yt 0,Yt 1,Yt 2,Nt 3,Nt 4,Nt 5] st ?_;clear st;intro w st hS;refine vp_take rfl rfl rfl hS (fun w st=>y_lda (vs:=[_,_,_]) st 2 rfl Tryz.isAgg26 Tryz.sizeOf26 rfl rfl) ?_;refine pld hS 1 Tryz.isAgg27 ?_;refine vp_take rfl rfl rfl hS (fun w st=>y_lda (vs:=[_,_]) st 0 rfl Tryz.isAgg29 Tryz.sizeOf29 rfl rfl) ?_;refine vp_do rfl (ests st 2 [_,_,_] Tryz.sizeOf26 ?_);intro w st;refine vp_next (by exact st) ?_;intro hS;refine vp_do rfl (est st 1 Tryz.sizeOf27 ?_);intro w st;refine vp_next (by exact st) ?_;intro hS;refine vp_do rfl (ests st 0 [_,_] Tryz.sizeOf29 ?_);intro w st;refine vp_next (by exact st) ?_;intro hS;refine vp_end ?_;refine vq_noPan ?_;refine a3 ?_;refine vqd_post (.inl rfl) (results3 st Tryz.results5 (.cell 2 rfl rfl Tryz.isAgg26 Tryz.sizeOf26) (.cell1 1 rfl rfl Tryz.isAgg27 rfl) (.cell 0 rfl rfl Tryz.isAgg29 Tryz.sizeOf29)) ?_;refine⟨_,rfl,st.chg,?_⟩;rw [hpr];exact⟨_,hp_none _ _,rfl⟩;intro hc13;exact absurd hc13 (by decide);replace st:=st.pnew cw hn
 have hpr:parseRes s=match progP c.e (c.ts.length+1) c.ts with | .error f=>(pg0,30,f.1,f.2) | .ok p=>(p,0,0,0):=by
  unfold parseRes;rw [if_neg (by omega),hfr,hn.e,hn.ts]
  try rfl
 refine a5 ?_;refine vc_e (est st 3 Tryz.sizeOf27 ?_);intro w st;refine vc_e (ests st 2 [_,_] Tryz.sizeOf29 ?_);intro w st;refine a5 ?_;refine yl st 3 Tryz.isAgg27 ?_;refine a3 ?_;refine vif ?_ ?_;intro hc13;exact absurd hc13 (by decide);intro hc13;refine a4 ?_;refine vy (y_mf [] [_,_,_] rfl rfl) ?_;refine vc_e (e_deferV rfl rfl rfl ?_);refine a5 ?_
 refine vc_e (e_callk [_] rfl rfl Tryz.call18 rfl (pprog_any c hn.R hn.g c.ts (List.suffix_refl _) _ (hn.ok (st.res (i:=1) rfl) (hsg.kept st.chg (by simp)) (st.res (i:=0) rfl) (Nat.lt_of_lt_of_le h0 hw1)) (st.res (i:=0) rfl) (c.ts.length+1) (by omega)) (by
     rintro _ w' ⟨f,hf,rfl,ch⟩
     obtain⟨o',ho'⟩:∃ o',w'.heap[c.pb]?=some o':=⟨_,Array.getElem?_eq_getElem (Nat.lt_of_lt_of_le (Array.getElem?_eq_some_iff.1 (st.res (i:=0) rfl)).1 ch.size)⟩
     have st':=St.prs (b:=c.pb) st 0 rfl ch (.inr (Nat.le_trans hw1 hn.le)) ho'
     dsimp only [setNth] at st'
     rw [show refV c f=.iface 69 (.agg #[.int .i64 (f.1:Int),.int .i64 (f.2:Int)]) by rw [refV,hn.R]]
     exact parse_pan (st'.res (i:=4) rfl) (st'.res (i:=3) rfl) (st'.res (i:=2) rfl) n23 n24 n34 hb2 hb3 hb4 st'.chg (by rw [hpr,hf]) rfl rfl rfl) ?_)
 rintro _ w ⟨q,hq,cw,os,ol,ot,cs,cl,ct,Sq,rfl,hT,hN⟩;have hw2:=st.chg.size;obtain⟨o',ho'⟩:∃ o',w.heap[c.pb]?=some o':=⟨_,Array.getElem?_eq_getElem (Nat.lt_of_lt_of_le (Array.getElem?_eq_some_iff.1 (st.res (i:=0) rfl)).1 cw.size)⟩
 replace st:=St.prsT (b:=c.pb) st 0 rfl cw (.inr (Nat.le_trans hw1 hn.le)) ho' (holds_pg hT) hN.2;refine vy (ybd (.agg #[_,_]) []) ?_;refine vc_e (ests st 5 [_,_,_] Tryz.sizeOf26 ?_);intro w st;refine vc_e (est st 4 Tryz.sizeOf27 ?_);intro w st;refine vc_e (ests st 3 [_,_] Tryz.sizeOf29 ?_);intro w st;refine a3 ?_;refine vqd_ret (.inl rfl) Tryz.call17 (parse_idle [.pointer (some ⟨b2,0,none⟩),.pointer (some ⟨b3,0,none⟩),.pointer (some ⟨b4,0,none⟩)] rfl _) (fun w2 e2=>?_);subst e2;refine⟨_,results3 st Tryz.results5 (.cell 5 rfl rfl Tryz.isAgg26 Tryz.sizeOf26) (.cell1 4 rfl rfl Tryz.isAgg27 rfl) (.cell 3 rfl rfl Tryz.isAgg29 Tryz.sizeOf29),_,rfl,st.chg,?_⟩;rw [hpr,hq];dsimp only;exact⟨_,⟨os,ol,ot,cs,cl,ct,Sq,rfl,(st.res (i:=0) rfl).1,hN.le hw2⟩,rfl⟩
end Go.Proofs.YtkhpdpenlnhbiaaGreatDoor.Pq
namespace Go.Proofs.YtkhpdpenlnhbiaaGreatDoor
open Go.RowKit Sx LexS _root_.Go.Proofs.Tryz
theorem isName_eq {l:List UInt8} (h0:l≠[]) (h1:l.length≤32) (h2:isDigit (l.getD 0 0)=false) (h3:isWord l=false):isName l=l.all isIdent:=by
 match l,h0 with
 | c::r,_=>simp at h2 h1;simp [isName,h2,h3,h1]
theorem isName_nil {l:List UInt8} (h:l=[]):isName l=false:=by subst h;rfl
theorem isName_long {l:List UInt8} (h:32<l.length):isName l=false:=by
 match l,h with
 | c::r,h=>simp only [isName];rw [show decide ((c::r).length≤32)=false from by simp only [decide_eq_false_iff_not];omega];simp
theorem isName_digit {l:List UInt8} (h:isDigit (l.getD 0 0)=true):isName l=false:=by
 match l with
 | []=>rfl
 | c::r=>simp at h;simp [isName,h]
theorem isName_word {l:List UInt8} (h:isWord l=true):isName l=false:=by
 match l with
 | []=>rfl
 | c::r=>simp [isName,h]
theorem all_take_succ {p:UInt8→Bool} {l:List UInt8} {m:Nat} (hm:m<l.length) (h:(l.take m).all p=true) (hp:p (l.getD m 0)=true):(l.take (m+1)).all p=true:=by
 rw [List.take_add_one];have:l[m]?=some (l.getD m 0):=by simp [List.getD,hm]
 rw [this];simp only [List.all_append,h,Option.toList_some,List.all_cons,hp,List.all_nil,Bool.and_self]
theorem all_no {p:UInt8→Bool} {l:List UInt8} {m:Nat} (hm:m<l.length) (hp:p (l.getD m 0)=false):l.all p=false:=by
 rw [List.all_eq_false];refine⟨l.getD m 0,?_,by rw [hp];simp⟩;rw [show l.getD m 0=l[m] from by simp [List.getD,hm]];exact List.getElem_mem hm
set_option maxHeartbeats 1000000 in
theorem name_any (l:List UInt8) (w:World):Ret Tryz.prog 27 [str l] w fun v w'=>v=.bool (isName l)∧w'=w:=by
 refine ret_of [_] Tryz.func27 rfl Tryz.ntmps27 rfl ?_;have st:=St.init w [];refine a10 ?_;refine vmb ?_ ?_;intro hg6;(try simp only [dn] at hg6);refine a16 ?_;refine a7 ?_;refine vr1 st Tryz.results27 ?_;refine⟨?_,rfl⟩;rw [Value.bool.injEq]
 (symm;apply isName_nil;assumption)
 intro hg6;(try simp only [dn] at hg6);refine a1 ?_;refine vy (y_lens rfl Tryz.underlying9) ?_;refine a2 ?_;refine vmb ?_ ?_;intro hg11;(try simp only [dn] at hg11);refine a16 ?_;refine a2 ?_;refine vr1 st Tryz.results27 ?_;refine⟨?_,rfl⟩;rw [Value.bool.injEq]
 (symm;apply isName_long;omega)
 intro hg11;(try simp only [dn] at hg11);refine a1 ?_;refine vy (y_ixs (k:=0) rfl rfl Tryz.underlying9 rfl (by(rcases l with _|⟨_,_⟩ <;> simp at*))) ?_;refine vc_e (e_call [_] rfl rfl Tryz.call66 rfl (digit_any _ _) ?_);rintro _ w ⟨rfl,rfl⟩;refine a1 ?_;refine vmb ?_ ?_;intro hg16;(try simp only [dn] at hg16);refine a13 ?_;refine vr1 st Tryz.results27 ?_;refine⟨?_,rfl⟩;rw [Value.bool.injEq]
 (symm;apply isName_digit;assumption)
 intro hg16;(try simp only [dn] at hg16);refine a1 ?_;refine vc_e (e_call [_] rfl rfl Tryz.call67 rfl (word_any _ _) ?_);rintro _ w ⟨rfl,rfl⟩;refine a3 ?_;refine vif ?_ ?_;intro hc19;(try simp only [dn] at hc19);refine a7 ?_;refine vr1 st Tryz.results27 ?_;refine⟨?_,rfl⟩;rw [Value.bool.injEq]
 (symm;apply isName_word;assumption)
 intro hc19;(try simp only [dn] at hc19);refine a6 ?_;refine vy (y_lens rfl Tryz.underlying9) ?_;refine a4 ?_;refine vc_loop (w0:=_) (M:=_) (fun (m:Nat)=>[(0,str l),(21,.int .i64 (l.length:Int)),(22,.int .i64 (m:Int))]) (fun _=>[]) (fun m w'=>m≤l.length∧(l.take m).all isIdent=true∧w'=w) (fun m=>l.length - m) 0 ⟨rfl,rfl,rfl,trivial⟩ st ⟨by omega,by simp,rfl⟩ ?_;rintro m w' ⟨hm,hall,rfl⟩ st;refine a6 ?_;refine vif ?_ ?_;intro hc23;(try simp only [dn] at hc23);refine a14 ?_;refine vy (y_ixs (k:=_) rfl rfl Tryz.underlying9 rfl (by omega)) ?_;refine vc_e (e_call [_] rfl rfl Tryz.call68 rfl (letter_any _ _) ?_);rintro _ w ⟨rfl,rfl⟩;refine a1 ?_;refine vmb ?_ ?_;intro hg30;(try simp only [dn] at hg30);refine a2 ?_;refine vy (y_ixs (k:=_) rfl rfl Tryz.underlying9 rfl (by omega)) ?_;refine vc_e (e_call [_] rfl rfl Tryz.call66 rfl (digit_any _ _) ?_);rintro _ w ⟨rfl,rfl⟩;refine a4 ?_;refine vif ?_ ?_;intro hc36;(try simp only [dn] at hc36);refine a11 ?_;refine vr1 st Tryz.results27 ?_;refine⟨?_,rfl⟩;rw [Value.bool.injEq]
 (symm;rw [isName_eq (by assumption) (by omega) (by assumption) (by assumption)];exact all_no (m:=m) (by omega) (by simp only [isIdent, *,Bool.or_true,Bool.true_or,Bool.or_self]))
 intro hc36;(try simp only [dn] at hc36);refine a4 ?_;refine vy (y_add rfl rfl rfl (by omega) (by omega)) ?_;refine a2 ?_;refine vq_again (m+1) ⟨rfl,rfl,rfl,trivial⟩ st ?_ ?_;exact⟨by omega,all_take_succ (by omega) hall (by simp only [isIdent, *,Bool.or_true,Bool.true_or,Bool.or_self]),rfl⟩;omega;intro hg30;(try simp only [dn] at hg30);refine a13 ?_;refine vy (y_add rfl rfl rfl (by omega) (by omega)) ?_;refine a2 ?_;refine vq_again (m+1) ⟨rfl,rfl,rfl,trivial⟩ st ?_ ?_;exact⟨by omega,all_take_succ (by omega) hall (by simp only [isIdent, *,Bool.or_true,Bool.true_or,Bool.or_self]),rfl⟩;omega;intro hc23;(try simp only [dn] at hc23);refine a11 ?_;refine vr1 st Tryz.results27 ?_;refine⟨?_,rfl⟩;rw [Value.bool.injEq]
 (symm;rw [isName_eq (by assumption) (by omega) (by assumption) (by assumption)];rw [List.take_of_length_le (by omega)] at hall;exact hall)
end Go.Proofs.YtkhpdpenlnhbiaaGreatDoor
