/- A part of the proof: contracts of functions and plain laws; each theorem says its own conditions. -/
import Derived.Test.YtkhpdpenlnhbiaaGreatDoorRows
import Derived.Test.YtkhpdpenlnhbiaaGreatDoorTopLoweredK7
import Derived.Test.YtkhpdpenlnhbiaaGreatDoorTopLoweredK2
import Derived.Test.YtkhpdpenlnhbiaaGreatDoorTopLoweredK8
import Derived.Test.YtkhpdpenlnhbiaaGreatDoorTopLoweredK3
set_option linter.unusedVariables false
set_option linter.unusedSimpArgs false
namespace Go.Proofs.YtkhpdpenlnhbiaaGreatDoor
open Go.RowKit Sx LexS _root_.Go.Proofs.Tryz
theorem Tryz.mixed:Tryz.prog.follows .mixedOrders=true:=by kernel_rfl
theorem digit_any (c:UInt8) (w:World):Ret Tryz.prog 66 [.int .u8 (c.toNat:Int)] w fun v w'=>v=.bool (isDigit c)∧w'=w:=by
 refine ret_of [_] Tryz.func66 rfl Tryz.ntmps66 rfl ?_;have st:=St.init w [];refine a9 ?_;refine vmb ?_ ?_;intro hg5;(try simp only [dn] at hg5);refine a3 ?_
 rotate_left
 intro hg5;(try simp only [dn] at hg5);refine a3 ?_
 all_goals
  refine a4 ?_;refine vr1 st Tryz.results66 ?_;exact⟨by rw [Value.bool.injEq,Bool.eq_iff_iff];simp only [isDigit,decide_eq_true_eq,true_iff,Bool.false_eq_true,false_iff];omega,rfl⟩
theorem letter_any (c:UInt8) (w:World):Ret Tryz.prog 68 [.int .u8 (c.toNat:Int)] w fun v w'=>v=.bool (isLetter c)∧w'=w:=by
 refine ret_of [_] Tryz.func68 rfl Tryz.ntmps68 rfl ?_;have st:=St.init w [];refine sr ?_;refine ya ?_;refine et (sr ?_);refine ym ?_;refine vy (y_geq rfl rfl) ?_;refine vmb ?_ ?_
 focus
  intro hg5;(try simp only [dn] at hg5);refine ym ?_;refine vy (y_leq rfl rfl) ?_;refine ypt ?_;refine vmb ?_ ?_;intro hg9;(try simp only [dn] at hg9);(iterate 6 refine vsk ?_);refine ypt ?_;refine ym ?_;(iterate 2 refine vsk ?_);refine ypt ?_
  rotate_left
  focus
   intro hg9;(try simp only [dn] at hg9);refine ym ?_;refine vy (y_geq rfl rfl) ?_;refine vmb ?_ ?_
   focus
    intro hg12;(try simp only [dn] at hg12);refine ym ?_;refine vy (y_leq rfl rfl) ?_;refine ypt ?_;refine ypf ?_;refine vmb ?_ ?_;intro hg17;(try simp only [dn] at hg17);(iterate 2 refine vsk ?_);refine ypt ?_
    rotate_left
    intro hg17;(try simp only [dn] at hg17);refine ym ?_;refine vy (y_eqi rfl rfl) ?_;refine ypf ?_
   rotate_left 2
   intro hg12;(try simp only [dn] at hg12);(iterate 2 refine vsk ?_);(iterate 2 refine ypf ?_);(iterate 2 refine ym ?_);refine vy (y_eqi rfl rfl) ?_;refine ypf ?_
 rotate_left 4
 focus
  intro hg5;(try simp only [dn] at hg5);(iterate 2 refine vsk ?_);refine ypf ?_;(iterate 2 refine ym ?_);refine vy (y_geq rfl rfl) ?_;refine vmb ?_ ?_
  focus
   intro hg12;(try simp only [dn] at hg12);refine ym ?_;refine vy (y_leq rfl rfl) ?_;refine ypt ?_;refine ypf ?_;refine vmb ?_ ?_;intro hg17;(try simp only [dn] at hg17);(iterate 2 refine vsk ?_);refine ypt ?_
   rotate_left
   intro hg17;(try simp only [dn] at hg17);refine ym ?_;refine vy (y_eqi rfl rfl) ?_;refine ypf ?_
  rotate_left 2
  intro hg12;(try simp only [dn] at hg12);(iterate 2 refine vsk ?_);(iterate 2 refine ypf ?_);(iterate 2 refine ym ?_);refine vy (y_eqi rfl rfl) ?_;refine ypf ?_
 all_goals
  refine ya ?_;refine et (vc_ret ?_);refine vr1 st Tryz.results68 ?_;exact⟨by rw [Value.bool.injEq,Bool.eq_iff_iff];simp only [isLetter,decide_eq_true_eq,true_iff,Bool.false_eq_true,false_iff];omega,rfl⟩
theorem blank_any (c:UInt8) (w:World):Ret Tryz.prog 119 [.int .u8 (c.toNat:Int)] w fun v w'=>v=.bool (isBlank c)∧w'=w:=by
 refine ret_of [_] Tryz.func119 rfl Tryz.ntmps119 rfl ?_;have st:=St.init w [];refine a9 ?_;refine vmb ?_ ?_;intro hg5;(try simp only [dn] at hg5);refine a11 ?_
 rotate_left
 focus
  intro hg5;(try simp only [dn] at hg5);refine a3 ?_;refine vmb ?_ ?_;intro hg9;(try simp only [dn] at hg9);refine a7 ?_
  rotate_left
  focus
   intro hg9;(try simp only [dn] at hg9);refine a3 ?_;refine vmb ?_ ?_;intro hg13;(try simp only [dn] at hg13);refine a3 ?_
   rotate_left
   intro hg13;(try simp only [dn] at hg13);refine a3 ?_
 all_goals
  refine a4 ?_;refine vr1 st Tryz.results119 ?_;exact⟨by rw [Value.bool.injEq,Bool.eq_iff_iff];simp only [isBlank,decide_eq_true_eq,true_iff,Bool.false_eq_true,false_iff];omega,rfl⟩
end Go.Proofs.YtkhpdpenlnhbiaaGreatDoor
namespace Go.Proofs.YtkhpdpenlnhbiaaGreatDoor.Pq
open Go.RowKit Sx LexS ParS _root_.Go.Proofs.Tryz
theorem known_any (k:Int) (w:World):Ret Tryz.prog 76 [.int .u8 k] w fun v w'=>v=.bool (knownOp k)∧w'=w:=by
 refine ret_of [_] Tryz.func76 rfl Tryz.ntmps76 rfl ?_;have st:=St.init w [];refine a9 ?_;refine vmb ?_ ?_;intro hg5;(try simp only [dn] at hg5);refine a3 ?_
 rotate_left
 intro hg5;(try simp only [dn] at hg5);refine a3 ?_
 all_goals
  refine a4 ?_;refine vr1 st Tryz.results76 ?_;refine⟨?_,rfl⟩;congr 1;unfold knownOp
  (symm;simp;omega)
theorem two_any (k:Int) (w:World):Ret Tryz.prog 33 [.int .u8 k] w fun v w'=>v=.bool (twoOp k)∧w'=w:=by
 refine ret_of [_] Tryz.func33 rfl Tryz.ntmps33 rfl ?_;have st:=St.init w [];refine a8 ?_;refine vc_e (e_call [_] rfl rfl Tryz.call76 rfl (known_any _ _) ?_);rintro _ _ ⟨rfl,rfl⟩;refine vmb ?_ ?_
 focus
  intro hg5;refine a3 ?_;refine vmb ?_ ?_;intro hg9;refine a3 ?_
  rotate_left
  intro hg9;refine a3 ?_
 rotate_left 2
 intro hg5;refine a7 ?_
 all_goals
  refine a4 ?_;refine vr1 st Tryz.results33 ?_;refine⟨?_,rfl⟩;show Value.bool _=Value.bool _;congr 1;unfold knownOp at *;unfold twoOp;simp only [decide_eq_true_eq,decide_eq_false_iff_not,Bool.not_eq_true',Bool.not_eq_false'] at *
  first|(symm;rw [decide_eq_false_iff_not];omega)|(rw [Bool.eq_iff_iff];simp only [Bool.not_eq_true',decide_eq_false_iff_not,decide_eq_true_eq];omega)
theorem level_any (k:Int) (w:World) (hs:SigAt 1 w):Ret Tryz.prog 151 [.int .u8 k] w fun v w'=>v=.int .i64 (lvlO k)∧w'=w:=by
 refine ret_of [_] Tryz.func151 rfl Tryz.ntmps151 rfl ?_;have st:=St.init w [];refine a9 ?_;refine vc_e (e_call [_] rfl rfl Tryz.call76 rfl (known_any _ _) ?_);rintro _ _ ⟨rfl,rfl⟩;refine a3 ?_;refine vif ?_ ?_;intro hc5;refine a7 ?_;refine vr1 st Tryz.results151 ?_;refine⟨?_,rfl⟩;unfold lvlO;rw [if_neg (by simpa using hc5)];intro hc5;have hk:0<k∧k<19:=by simpa [knownOp] using hc5
 obtain⟨m,rfl⟩:∃ m:Nat,k=(m:Int):=⟨k.toNat,by omega⟩
 refine a5 ?_;refine vy (y_iaa (k:=m) rfl rfl Tryz.underlying219 Tryz.sizeOf218 rfl (by omega)) ?_;refine vy (y_fa (k:=1) rfl Tryz.underlying218 rfl rfl Tryz.sizeOf3 rfl) ?_;refine vy ((by exact y_ldc rfl Tryz.isAgg3 (by have h:=(hs m (by omega)).2;rw [Nat.zero_add];exact h))) ?_;refine a4 ?_;refine vr1 st Tryz.results151 ?_;refine⟨?_,rfl⟩;unfold lvlO;rw [if_pos (by simpa using hc5)];rfl
def noOp (s:List UInt8) (j:Nat):Prop:=∀ k,k<j→(twoOp (k:Int) && decide (sgn k=s))=false
theorem findO_at {s:List UInt8} {j:Nat} (hj:j<19) (h:noOp s j) (h2:twoOp (j:Int)=true) (h3:sgn j=s):findO s=some j:=by
 unfold findO;rw [List.find?_eq_some_iff_append];refine⟨by simp [h2,h3],List.range j,(List.range' (j+1) (18 - j)),?_,fun k hk=>(by have:=h k (by simpa using hk);show (!(twoOp (k:Int) && decide (sgn k=s)))=true;rw [this];rfl)⟩;rw [List.range_eq_range',List.range_eq_range',show 19=j+(19 - j) by omega,← List.range'_append_1];rw [show 19 - j=(18 - j)+1 by omega,List.range'_succ];simp
theorem findO_no {s:List UInt8} (h:noOp s 19):findO s=none:=by
 unfold findO;rw [List.find?_eq_none];intro k hk;have:=h k (by simpa using hk);show ¬ (twoOp (k:Int) && decide (sgn k=s))=true;rw [this];simp
theorem noOp_step {s:List UInt8} {j:Nat} (h:noOp s j) (h2:(twoOp (j:Int) && decide (sgn j=s))=false):noOp s (j+1):=fun k hk=>by
 rcases Nat.lt_or_ge k j with h1|h1
 ·exact h k h1
 ·obtain rfl:k=j:=by omega
  exact h2
theorem find_any (s:List UInt8) (w:World) (hs:SigAt 1 w):Ret Tryz.prog 150 [str s] w fun v w'=>v=.tuple [.int .u8 (((findO s).getD 0:Nat):Int),.bool (findO s).isSome].toArray∧w'=w:=by
 refine ret_of [_] Tryz.func150 rfl Tryz.ntmps150 rfl ?_;have st:=St.init w [];obtain⟨w0,rfl⟩:∃ w0,w0=w:=⟨_,rfl⟩
 refine a13 ?_;refine vc_loop (w0:=w0) (M:=[]) (fun (j:Nat)=>[(0,str s),(5,.int .u8 (j:Int))]) (fun _=>[]) (fun j w'=>j≤19∧noOp s j∧w'=w0) (fun j=>19 - j) 0 ⟨rfl,rfl,trivial⟩ st ⟨by simp,fun k hk=>by omega,rfl⟩ ?_;clear st;rintro j w ⟨hj,hno,rfl⟩ st;refine a6 ?_;refine vif ?_ ?_;intro hc6;(try simp only [dn] at hc6);refine a13 ?_;refine vc_e (e_call [_] rfl rfl Tryz.call33 rfl (two_any _ _) ?_);rintro _ _ ⟨rfl,rfl⟩;refine vmb ?_ ?_;intro hg10;(try simp only [dn] at hg10);refine a1 ?_;refine vy (y_iaa (k:=j) rfl rfl Tryz.underlying219 Tryz.sizeOf218 rfl (by omega)) ?_;refine vy (y_fa0 rfl Tryz.underlying218 rfl rfl Tryz.sizeOf9 rfl) ?_;refine vy ((by exact y_ldc rfl Tryz.isAgg9 (by have h:=(hs j (by omega)).1;rw [Nat.zero_add];exact h))) ?_;refine a5 ?_;refine vif ?_ ?_;intro hc17;(try simp only [dn] at hc17);refine a13 ?_;refine vq_ret2 st (.inl rfl) Tryz.results150 (.tmp rfl) (.tmp rfl) ?_;refine⟨_,rfl,?_⟩;have he:findO s=some j:=findO_at (by omega) hno (by simp_all) (by simp_all);rw [he];exact⟨rfl,rfl⟩;intro hc17;(try simp only [dn] at hc17);refine a4 ?_;refine vy (y_addk rfl rfl (by rw [wrap_u8];omega:_=((j+1:Nat):Int))) ?_;refine a2 ?_;refine vq_again (j+1)  ⟨rfl,rfl,trivial⟩ st ?_ ?_;exact⟨by omega,noOp_step hno (by simp_all),rfl⟩;omega;intro hg10;(try simp only [dn] at hg10);refine a14 ?_;refine vy (y_addk rfl rfl (by rw [wrap_u8];omega:_=((j+1:Nat):Int))) ?_;refine a2 ?_;refine vq_again (j+1)  ⟨rfl,rfl,trivial⟩ st ?_ ?_;exact⟨by omega,noOp_step hno (by simp_all),rfl⟩;omega;intro hc6;(try simp only [dn] at hc6);refine a12 ?_;refine vq_ret2 st (.inl rfl) Tryz.results150 (.tmp rfl) (.tmp rfl) ?_;refine⟨_,rfl,?_⟩;obtain rfl:j=19:=by omega
 have he:findO s=none:=findO_no hno;rw [he];exact⟨rfl,rfl⟩
end Go.Proofs.YtkhpdpenlnhbiaaGreatDoor.Pq
namespace Go.Proofs.YtkhpdpenlnhbiaaGreatDoor.Pq
open Go.RowKit Sx LexS ParS _root_.Go.Proofs.Tryz
theorem phere_any (c:PCtx) (r:List Tok) (hr:r <:+ c.ts) (w:World) (hC:PCok c w) (hP:PAt c r w):Ret Tryz.prog 100 [.pointer (some ⟨c.pb,0,none⟩)] w fun v w'=>v=.agg (tkL (here r)).toArray∧Chg [] w w':=by
 obtain⟨pb,n0,oa,cap,ts,e,TT,R,g⟩:=c;dsimp only [PAt,pcell] at hr hP ⊢;refine ret_of [_] Tryz.func100 rfl Tryz.ntmps100 rfl ?_;obtain⟨w0,rfl⟩:∃ w0,w0=w:=⟨_,rfl⟩
 have st:=St.of1 [] hP;refine sr ?_;refine vc_e (e_al (l:=[_,_,_,_]) st rfl rfl Tryz.zeroValue64 rfl ?_);intro b2 w hb2 st;refine et (vc_seq (vc_seq ?_));refine vdr0 Tryz.mixed [Yt 0,Yt 1,Yt 2,Yt 3,Yt 4,Yt 5,Yt 6,Yt 7,Yt 8,Yt 9] st ?_;clear st;intro w st hS;refine pm hS ?_;refine pnk hS ?_;refine pfz hS 1 Tryz.underlying120 Tryz.sizeOf3 ?_;refine pld hS 1 Tryz.isAgg3 ?_;refine pm hS ?_;refine pnk hS ?_;refine pf0 hS Tryz.underlying120 Tryz.sizeOf58 ?_;refine pld hS 1 Tryz.isAgg58 ?_;refine vp_take rfl rfl rfl hS (fun w st=>y_lensl rfl Tryz.underlying58) ?_;refine vp_take rfl rfl rfl hS (fun w st=>y_lss rfl rfl) ?_;refine vp_end (vq_then ?_);refine vif ?_ ?_;intro hc12;(try simp only [dn] at hc12);have hne:r≠[]:=by rintro rfl;simp at hc12
 obtain⟨tb,tq,hoa,hc⟩:=hC.tok hr hne;have hlt:=(suf_get hr hne).2;dsimp only at hoa hc hlt;subst hoa;refine vc_seq ?_;refine vdr Tryz.mixed [Yt 0,Yt 1,Yt 2,Yt 3,Yt 4,Yt 5,Yt 6,Yt 7,Yt 8,Yt 9,Nt 10] [.blk pb (.cells [.slice (some ⟨tb,tq,none⟩) ts.length cap,.int .i64 ((ts.length - r.length:Nat):Int),.int .i64 (e:Int)].toArray TT (0,0))] st ?_;clear st;intro w st hS;refine pm hS ?_;refine pnk hS ?_;refine pf0 hS Tryz.underlying120 Tryz.sizeOf58 ?_;refine pld hS 0 Tryz.isAgg58 ?_;refine pm hS ?_;refine pnk hS ?_;refine pfz hS 1 Tryz.underlying120 Tryz.sizeOf3 ?_;refine pld hS 0 Tryz.isAgg3 ?_;refine vp_take rfl rfl rfl hS (fun w st=>y_ia (k:=(ts.length - r.length)) rfl rfl Tryz.underlying58 Tryz.sizeOf64 rfl (hlt)) ?_;refine vp_take rfl rfl rfl hS (fun w st=>y_ldca (tkL (here r)) rfl Tryz.isAgg64 Tryz.sizeOf64 rfl (fun i v hi=>st.chg.cell (hc i v hi) (by simp))) ?_;refine vp_do rfl (ests st 0 [_,_,_,_] Tryz.sizeOf64 ?_);intro w st;dsimp only [setNth,wr] at st;refine vp_next st.dr ?_;intro hS;refine vp_end (vq_then (vc_ret (vq_then_ret ?_)));refine vq_ret1 st (.inl rfl) Tryz.results100 (by exact .cell 0 rfl rfl Tryz.isAgg64 Tryz.sizeOf64) ?_;refine⟨_,rfl,?_⟩;exact⟨rfl,st.chg⟩;intro hc12;(try simp only [dn] at hc12);have h0:r.length=0:=by have:=suf_len hr;omega
 refine kt (sr ?_);refine vy (ybd (.agg #[_,_,_,_]) []) ?_;refine vc_e (ests st 0 [_,_,_,_] Tryz.sizeOf64 ?_);intro w st;dsimp only [setNth,wr] at st;refine et (vc_ret ?_);refine vq_ret1 st (.inl rfl) Tryz.results100 (by exact .cell 0 rfl rfl Tryz.isAgg64 Tryz.sizeOf64) ?_;refine⟨_,rfl,?_⟩;rw [here_nil h0];exact⟨rfl,st.chg⟩
theorem pat_any (c:PCtx) (r:List Tok) (hr:r <:+ c.ts) (w:World) (hC:PCok c w) (hP:PAt c r w):Ret Tryz.prog 104 [.pointer (some ⟨c.pb,0,none⟩)] w fun v w'=>v=.int .i64 (atT c.e r:Int)∧Chg [] w w':=by
 obtain⟨pb,n0,oa,cap,ts,e,TT,R,g⟩:=c;dsimp only [PAt,pcell] at hr hP ⊢;refine ret_of [_] Tryz.func104 rfl Tryz.ntmps104 rfl ?_;obtain⟨w0,rfl⟩:∃ w0,w0=w:=⟨_,rfl⟩
 have st:=St.of1 [] hP;refine sr ?_;refine ya ?_;refine et (vc_seq (vc_seq ?_));refine vdr0 Tryz.mixed [Yt 0,Yt 1,Yt 2,Yt 3,Yt 4,Yt 5,Yt 6,Yt 7,Yt 8,Yt 9] st ?_;clear st;intro w st hS;refine pm hS ?_;refine pnk hS ?_;refine pfz hS 1 Tryz.underlying120 Tryz.sizeOf3 ?_;refine pld hS 0 Tryz.isAgg3 ?_;refine pm hS ?_;refine pnk hS ?_;refine pf0 hS Tryz.underlying120 Tryz.sizeOf58 ?_;refine pld hS 0 Tryz.isAgg58 ?_;refine vp_take rfl rfl rfl hS (fun w st=>y_lensl rfl Tryz.underlying58) ?_;refine vp_take rfl rfl rfl hS (fun w st=>y_lss rfl rfl) ?_;refine vp_end (vq_then ?_);refine vif ?_ ?_;intro hc12;(try simp only [dn] at hc12);have hne:r≠[]:=by rintro rfl;simp at hc12
 obtain⟨tb,tq,hoa,hc⟩:=hC.tok hr hne;have hlt:=(suf_get hr hne).2;dsimp only at hoa hc hlt;subst hoa;refine vc_seq ?_;refine vdr0 Tryz.mixed [Yt 0,Yt 1,Yt 2,Yt 3,Yt 4,Yt 5,Yt 6,Yt 7,Yt 8,Yt 9,Yt 10,Yt 11] st ?_;clear st;intro w st hS;refine pm hS ?_;refine pnk hS ?_;refine pf0 hS Tryz.underlying120 Tryz.sizeOf58 ?_;refine pld hS 0 Tryz.isAgg58 ?_;refine pm hS ?_;refine pnk hS ?_;refine pfz hS 1 Tryz.underlying120 Tryz.sizeOf3 ?_;refine pld hS 0 Tryz.isAgg3 ?_;refine vp_take rfl rfl rfl hS (fun w st=>y_ia (k:=(ts.length - r.length)) rfl rfl Tryz.underlying58 Tryz.sizeOf64 rfl (hlt)) ?_;refine vp_take rfl rfl rfl hS (fun w st=>y_fa (k:=3) rfl Tryz.underlying64 rfl rfl Tryz.sizeOf3 rfl) ?_;refine vp_take rfl rfl rfl hS (fun w st=>y_ldc rfl Tryz.isAgg3 (st.chg.cell (hc 3 _ rfl) (by simp))) ?_;refine vp_take rfl rfl rfl hS (fun w st=>y_as rfl) ?_;refine vp_end (vq_then (vc_ret (vq_then_ret ?_)));refine vr1 st Tryz.results104 ?_;rw [atT_cons hne];exact⟨rfl,st.chg⟩;intro hc12;(try simp only [dn] at hc12);have h0:r.length=0:=by have:=suf_len hr;omega
 refine kt (sr ?_);refine ym ?_;refine ynk ?_;refine yfz 2 Tryz.underlying120 Tryz.sizeOf3 ?_;refine yl st 0 Tryz.isAgg3 ?_;refine ya ?_;refine et (vc_ret ?_);refine vr1 st Tryz.results104 ?_;rw [atT_nil h0];exact⟨rfl,st.chg⟩
theorem pis_any (c:PCtx) (s:List UInt8) (r:List Tok) (hr:r <:+ c.ts) (w:World) (hC:PCok c w) (hP:PAt c r w):Ret Tryz.prog 40 [.pointer (some ⟨c.pb,0,none⟩),str s] w fun v w'=>v=.bool (isT s r)∧Chg [] w w':=by
 refine ret_of [_,_] Tryz.func40 rfl Tryz.ntmps40 rfl ?_;have st:=St.init w [];obtain⟨w0,rfl⟩:∃ w0,w0=w:=⟨_,rfl⟩
 refine sr ?_;refine ya ?_;refine et (sr ?_);refine ym ?_;refine vc_e (e_call [_] rfl rfl Tryz.call100 rfl (phere_any c r hr _ hC hP) ?_);rintro _ w ⟨rfl,cw⟩;replace st:=st.call0 cw;refine vc_e (e_al (l:=[_,_,_,_]) st rfl rfl Tryz.zeroValue64 rfl ?_);intro b5 w hb5 st;refine vc_e (ests st 0 [_,_,_,_] Tryz.sizeOf64 ?_);intro w st;dsimp only [setNth,wr] at st;refine et (sr ?_);refine yfz 1 Tryz.underlying64 Tryz.sizeOf9 ?_;refine yl st 0 Tryz.isAgg9 ?_;refine ym ?_;refine vy (y_eqs rfl rfl) ?_;refine vmb ?_ ?_
 focus
  intro hg12;(try simp only [dn] at hg12);refine vy (y_fa0 rfl Tryz.underlying64 rfl rfl Tryz.sizeOf62 rfl) ?_;refine yl st 0 Tryz.isAgg62 ?_;refine vy (y_eqi rfl rfl) ?_;refine vmb ?_ ?_;intro hg16;(try simp only [dn] at hg16);(iterate 3 refine vsk ?_);refine ypt ?_
  rotate_left
  intro hg16;(try simp only [dn] at hg16);refine vy (y_fa0 rfl Tryz.underlying64 rfl rfl Tryz.sizeOf62 rfl) ?_;refine yl st 0 Tryz.isAgg62 ?_;refine vy (y_eqi rfl rfl) ?_;refine ypf ?_
  all_goals
   refine a1 ?_
 rotate_left 2
 intro hg12;(try simp only [dn] at hg12);(iterate 8 refine vsk ?_);refine ypf ?_
 all_goals
  refine ya ?_;refine et (vc_ret ?_);refine vr1 st Tryz.results40 ?_;have hk2:((here r).kind:Int)=2↔(here r).kind=2:=by omega
  have hk4:((here r).kind:Int)=4↔(here r).kind=4:=by omega
  refine⟨?_,st.chg⟩;unfold isT
  simp_all
theorem ptake_any (c:PCtx) (s:List UInt8) (r:List Tok) (hr:r <:+ c.ts) (w:World) (hC:PCok c w) (hP:PAt c r w):Ret Tryz.prog 36 [.pointer (some ⟨c.pb,0,none⟩),str s] w fun v w'=>v=.bool (isT s r)∧PAt c (if isT s r=true then r.tail else r) w'∧Chg [c.pb] w w':=by
 refine ret_of [_,_] Tryz.func36 rfl Tryz.ntmps36 rfl ?_;obtain⟨w0,rfl⟩:∃ w0,w0=w:=⟨_,rfl⟩
 have hP':=hP;dsimp only [PAt,pcell] at hP;have st:=St.of1 [c.pb] hP;have h20:=hC.len;have hl:=suf_len hr;refine sr ?_;refine ya ?_;refine et (vc_seq (sr ?_));(iterate 2 refine ym ?_);refine vc_e (e_call [_,_] rfl rfl Tryz.call40 rfl (pis_any c s r hr _ hC hP') ?_);rintro _ w ⟨rfl,cw⟩;replace st:=st.call0 cw;refine vy (y_not rfl) ?_;refine et ?_;refine vif ?_ ?_;intro hc8;(try simp only [dn] at hc8);have hF:isT s r=false:=by simpa using hc8
 refine sr ?_;refine ya ?_;refine et (vc_ret (vq_then_ret ?_));refine vr1 st Tryz.results36 ?_;rw [hF];exact⟨rfl,st.res (i:=0) rfl,st.chg⟩;intro hc8;(try simp only [dn] at hc8);have hT:isT s r=true:=by simpa using hc8
 have ht:=tail_lt (isT_ne hT);have ht2:r.tail.length=r.length - 1:=List.length_tail;refine kt (sr ?_);refine ym ?_;refine ynk ?_;refine yfz 1 Tryz.underlying120 Tryz.sizeOf3 ?_;refine yl st 0 Tryz.isAgg3 ?_;refine vy (yin ((c.ts.length - r.tail.length:Nat):Int)) ?_;refine ynk ?_;refine yfz 1 Tryz.underlying120 Tryz.sizeOf3 ?_;refine vc_e (est st 0 Tryz.sizeOf3 ?_);intro w st;dsimp only [setNth,wr] at st;refine et ((sr ?_));refine ya ?_;refine et (vc_ret ?_);refine vr1 st Tryz.results36 ?_;rw [hT];exact⟨rfl,st.res (i:=0) rfl,st.chg⟩
theorem pnext_any (c:PCtx) (r:List Tok) (hr:r <:+ c.ts) (hne:r≠[]) (w:World) (hC:PCok c w) (hP:PAt c r w):Ret Tryz.prog 101 [.pointer (some ⟨c.pb,0,none⟩)] w fun v w'=>v=.agg (tkL (here r)).toArray∧PAt c r.tail w'∧Chg [c.pb] w w':=by
 refine ret_of [_] Tryz.func101 rfl Tryz.ntmps101 rfl ?_;obtain⟨w0,rfl⟩:∃ w0,w0=w:=⟨_,rfl⟩
 have hP':=hP;dsimp only [PAt,pcell] at hP;have st:=St.of1 [c.pb] hP;have h20:=hC.len;have hl:=suf_len hr;have ht:=tail_lt hne;have ht2:r.tail.length=r.length - 1:=List.length_tail;replace st:=st.call0 (Chg.refl _ _);have stP:=hP';refine sr ?_;refine vc_e (e_al (l:=[_,_,_,_]) st rfl rfl Tryz.zeroValue64 rfl ?_);intro b2 w hb2 st;refine et (sr ?_);refine ym ?_;refine vc_e (e_call [_] rfl rfl Tryz.call100 rfl (phere_any c r hr _ (hC.k1 st.chg) (st.res (i:=1) rfl)) ?_);rintro _ w ⟨rfl,cw⟩;replace st:=st.call0 cw;refine vc_e (e_al (l:=[_,_,_,_]) st rfl rfl Tryz.zeroValue64 rfl ?_);intro b3 w hb3 st;refine vc_e (ests st 0 [_,_,_,_] Tryz.sizeOf64 ?_);intro w st;dsimp only [setNth,wr] at st;refine et (sr ?_);refine ym ?_;refine ynk ?_;refine yfz 1 Tryz.underlying120 Tryz.sizeOf3 ?_;refine yl st 2 Tryz.isAgg3 ?_;refine vy (yin ((c.ts.length - r.tail.length:Nat):Int)) ?_;refine ynk ?_;refine yfz 1 Tryz.underlying120 Tryz.sizeOf3 ?_;refine vc_e (est st 2 Tryz.sizeOf3 ?_);intro w st;dsimp only [setNth,wr] at st;refine et (sr ?_);refine yla st 0 [_,_,_,_] Tryz.isAgg64 Tryz.sizeOf64 ?_;refine vc_e (ests st 1 [_,_,_,_] Tryz.sizeOf64 ?_);intro w st;dsimp only [setNth,wr] at st;refine et (vc_ret ?_);refine vq_ret1 st (.inl rfl) Tryz.results101 (by exact .cell 1 rfl rfl Tryz.isAgg64 Tryz.sizeOf64) ?_;refine⟨_,rfl,?_⟩;exact⟨rfl,st.res (i:=2) rfl,st.chg⟩
theorem pfail_any (c:PCtx) (rule:Nat) (r:List Tok) (hr:r <:+ c.ts) (w:World) (hC:PCok c w) (hP:PAt c r w) (hR:c.R=69):RetP Tryz.prog 42 [.pointer (some ⟨c.pb,0,none⟩),.int .i64 (rule:Int)] w (fun _ _=>False) (fun v w'=>v=refV c (atT c.e r,rule)∧Chg [] w w'):=by
 refine retp_of [_,_] Tryz.func42 rfl Tryz.ntmps42 rfl ?_;have st:=St.init w [];obtain⟨w0,rfl⟩:∃ w0,w0=w:=⟨_,rfl⟩
 refine vc_region ?_;refine ym ?_;refine vc_e (e_call [_] rfl rfl Tryz.call104 rfl (pat_any c r hr _ hC hP) ?_);rintro _ w ⟨rfl,cw⟩;replace st:=st.call0 cw;refine ym ?_;refine vy (ybd (.agg #[_,_]) [(0,_),(1,_)]) ?_;refine vy (ybd (.agg #[_,_]) [(0,_)]) ?_;refine vy (y_mki rfl Tryz.underlying69) ?_;refine vc_e (e_panicI rfl rfl (fun a ha=>And.intro ha (Or.inr ⟨_,rfl,by rw [refV,hR],st.chg⟩)))
theorem pwant_any (c:PCtx) (ss:List (List UInt8)) (hss:ss.length≤4) (lb n cap E:Nat) (hn:n=ss.length) (r:List Tok) (hr:r <:+ c.ts) (w:World) (hC:PCok c w) (hP:PAt c r w) (hR:c.R=69)
    (hL:w.heap[lb]?=some (.cells (ss.map str).toArray E (0,0))) (hne:lb≠c.pb):RetP Tryz.prog 99 [.pointer (some ⟨c.pb,0,none⟩),.slice (some ⟨lb,0,none⟩) n cap] w
  (fun v w'=>∃ r',wantL c.e ss r=.ok r'∧r' <:+ r∧r'.length+ss.length≤r.length∧PAt c r' w'∧Chg [c.pb] w w') (PErr c (wantL c.e ss r) [c.pb] w):=by
 refine retp_of [_,_] Tryz.func99 rfl Tryz.ntmps99 rfl ?_;obtain⟨w0,rfl⟩:∃ w0,w0=w:=⟨_,rfl⟩
 subst hn;have hP':=hP;dsimp only [PAt,pcell] at hP;have st:=St.of1 [c.pb] hP;have h20:=hC.len;have hl:=suf_len hr;refine sr ?_;refine ym ?_;refine vy (y_lensl rfl Tryz.underlying189) ?_;refine ym ?_;refine et (vc_block ?_);refine vc_loop (w0:=w0) (M:=[c.pb]) (fun (y:Nat×List Tok)=>[(0,.pointer (some ⟨c.pb,0,none⟩)),(6,.slice (some ⟨lb,0,none⟩) ss.length cap),(7,.int .i64 (ss.length:Int)),(8,.int .i64 (y.1:Int))]) (fun y=>[.blk c.pb (.cells (pcell c y.2).toArray c.T (0,0))]) (fun y _=>y.1≤ss.length∧y.2 <:+ r∧y.2.length+y.1≤r.length∧wantL c.e ss r=wantL c.e (ss.drop y.1) y.2) (fun y=>ss.length - y.1) (0,r) ⟨rfl,rfl,rfl,rfl,trivial⟩ st ⟨by simp,List.suffix_refl _,by simp,by simp⟩ ?_;clear st;rintro ⟨j,r1⟩ w ⟨hj,hr1,hl1,hw⟩ st;dsimp only at hj hr1 hl1 hw st;refine sr ?_;refine vy (y_lss rfl rfl) ?_;refine et (vc_seq ?_);refine vif ?_ ?_;intro hc9;(try simp only [dn] at hc9);have hjl:j<ss.length:=by omega
 obtain⟨s,hs⟩:∃ s,ss[j]?=some s:=⟨_,List.getElem?_eq_getElem hjl⟩
 have hcell:w0.cell? ⟨lb,j*1,none⟩=some (str s):=cell_blk hL (by rw [nth_eq,Nat.mul_one];simp [hs]);have hd:ss.drop j=s::ss.drop (j+1):=by rw [List.drop_eq_getElem_cons hjl];congr 1;rw [List.getElem?_eq_getElem hjl] at hs;exact Option.some.inj hs
 rw [hd] at hw;have hr2:=hr1.trans hr;refine kt (vc_seq (vc_block (sr ?_)));refine vy (y_ia0 (k:=j) rfl rfl Tryz.underlying189 Tryz.sizeOf9 rfl (by omega)) ?_;refine vy (y_ldc rfl Tryz.isAgg9 (st.chg.cell hcell (by simpa using hne))) ?_;refine ya ?_;refine et (sr ?_);(iterate 2 refine ym ?_);refine vc_e (e_call [_,_] rfl rfl Tryz.call36 rfl (ptake_any c s r1 hr2 _ (hC.k1 st.chg) (st.res (i:=0) rfl)) ?_);rintro _ w ⟨rfl,hP1,cw⟩;replace st:=st.prs 0 rfl cw (.inl (.head _)) hP1;dsimp only [setNth] at st;refine vy (y_not rfl) ?_;refine et ?_;refine vif ?_ ?_;intro hc15;(try simp only [dn] at hc15);have hF:isT s r1=false:=by simpa using hc15
 simp only [hF,Bool.false_eq_true,if_false] at st;refine vc_region ?_;refine ym ?_;refine vc_e (e_callp [_,_] rfl rfl Tryz.call42 rfl (pfail_any c 2 r1 hr2 _ (hC.k1 st.chg) (st.res (i:=0) rfl) hR) (by rintro _ w' ⟨rfl,ch⟩ a ha;exact And.intro ha (Or.inr ⟨_,rfl,(atT c.e r1,2),by rw [hw];simp only [wantL,want_neg hF],rfl,st.chg.trans ch.of_nil⟩)) (fun _ _ h=>h.elim));intro hc15;(try simp only [dn] at hc15);have hT:isT s r1=true:=by simpa using hc15
 simp only [hT,if_true] at st;have ht:=tail_lt (isT_ne hT);refine vc_code_skip (vq_block (vq_then (vc_region ?_)));refine vy (yin ((j+1:Nat):Int)) ?_;refine ym ?_;refine vc_end ?_;refine vq_again (j+1,r1.tail)  ⟨rfl,rfl,rfl,rfl,trivial⟩ st ?_ ?_;exact⟨by dsimp only;omega,(List.tail_suffix _).trans hr1,by dsimp only;omega,by rw [hw];simp only [wantL,want_pos hT]⟩;dsimp only;omega;intro hc9;(try simp only [dn] at hc9);refine vc_exit (vq_then_exit (vq_then_exit (vq_block_exit ?_)));refine vq_ret0 (.inr rfl) Tryz.results99 ?_;refine .inl ⟨_,rfl,?_⟩;obtain rfl:j=ss.length:=by omega
 rw [List.drop_length] at hw;exact⟨r1,hw,hr1,hl1,st.res (i:=0) rfl,st.chg⟩
end Go.Proofs.YtkhpdpenlnhbiaaGreatDoor.Pq
