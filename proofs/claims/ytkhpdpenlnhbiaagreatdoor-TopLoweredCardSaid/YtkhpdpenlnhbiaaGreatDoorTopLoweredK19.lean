/- A part of the proof: contracts of functions and plain laws; each theorem says its own conditions. -/
import Derived.Test.YtkhpdpenlnhbiaaGreatDoorTopLoweredK7
import Derived.Test.YtkhpdpenlnhbiaaGreatDoorTopLoweredK18
import Derived.Test.YtkhpdpenlnhbiaaGreatDoorTopLoweredK8
import Derived.Test.YtkhpdpenlnhbiaaGreatDoorTopLoweredK3
import Derived.Test.YtkhpdpenlnhbiaaGreatDoorTopLoweredK2
import Derived.Test.YtkhpdpenlnhbiaaGreatDoorTopLoweredSxZ
import Derived.Test.YtkhpdpenlnhbiaaGreatDoorTopLoweredK6
import Derived.Test.YtkhpdpenlnhbiaaGreatDoorTopLoweredK10
set_option linter.unusedVariables false
set_option linter.unusedSimpArgs false
namespace Go.Proofs.YtkhpdpenlnhbiaaGreatDoor
open Go.RowKit Sx LexS _root_.Go.Proofs.Tryz
theorem known_any (k:Int) (w:World):Ret Tryz.prog 76 [.int .u8 k] w fun v w'=>v=.bool (knownOp k)∧w'=w:=by
 refine ret_of [_] Tryz.func76 rfl Tryz.ntmps76 rfl ?_;have st:=St.init w [];refine a9 ?_;refine vmb ?_ ?_;intro hg5;(try simp only [dn] at hg5);refine a3 ?_
 rotate_left
 intro hg5;(try simp only [dn] at hg5);refine a3 ?_
 all_goals
  refine a4 ?_;refine vr1 st Tryz.results76 ?_;refine⟨?_,rfl⟩;congr 1;unfold knownOp
  (symm;simp;omega)
theorem two_any (k:Int) (w:World):Ret Tryz.prog 33 [.int .u8 k] w fun v w'=>v=.bool (twoOp k)∧w'=w:=by
 refine ret_of [_] Tryz.func33 rfl Tryz.ntmps33 rfl ?_;have st:=St.init w [];refine a8 ?_;refine vc_e (e_call [_] rfl rfl Tryz.call76 rfl (known_any _ _) ?_);rintro _ _ ⟨rfl,rfl⟩;refine vmb ?_ ?_
 focus
  intro hg5;refine a3 ?_;refine vmb ?_ ?_;intro hg9;refine a3 ?_
  rotate_left
  intro hg9;refine a3 ?_
 rotate_left 2
 intro hg5;refine a7 ?_
 all_goals
  refine a4 ?_;refine vr1 st Tryz.results33 ?_;refine⟨?_,rfl⟩;show Value.bool _=Value.bool _;congr 1;unfold knownOp at *;unfold twoOp;simp only [decide_eq_true_eq,decide_eq_false_iff_not,Bool.not_eq_true',Bool.not_eq_false'] at *
  first|(symm;rw [decide_eq_false_iff_not];omega)|(rw [Bool.eq_iff_iff];simp only [Bool.not_eq_true',decide_eq_false_iff_not,decide_eq_true_eq];omega)
abbrev zs (k:Nat):List Value:=List.replicate k (.int .u8 0)
theorem zs_set (k:Nat) (t:List UInt8) (c:UInt8) (x:Int) (hx:(c.toNat:Int)=x) (hk:0<k):(zs k++bytesL t).set (k - 1) (.int .u8 x)=zs (k - 1)++bytesL (c::t):=by
 obtain⟨m,rfl⟩:∃ m,k=m+1:=⟨k - 1,by omega⟩
 have e:zs (m+1)=zs m++[.int .u8 0]:=by simp [zs,List.replicate_succ']
 rw [e,Nat.add_sub_cancel,List.append_assoc,List.set_append_right _ _ (by simp)];subst hx;simp
theorem zs_len (k:Nat) (t:List UInt8):(zs k++bytesL t).length=k+t.length:=by simp
theorem blk_rd {w:World} {b k E:Nat} {t:List UInt8} {c:Nat} (h:w.heap[b]?=some (.cells (zs k++bytesL t).toArray E (0,0))):RdRowP w (some ⟨b,0+k*1,none⟩) c (bytesL t):=
 .inr ⟨b,0+k*1,rfl,fun j u hj=>cell_blk h (by
   rw [nth_eq,List.getElem?_append_right (by simp)]
   simpa [show 0+k*1+j - k=j by omega] using hj)⟩
set_option maxHeartbeats 1000000 in
theorem wprint_any (x:Int) (w:World) (hx:-9223372036854775808≤x∧x≤9223372036854775807):Ret Tryz.prog 15 [.int .i64 x] w fun v w'=>v=str (shw x)∧Chg [] w w':=by
 refine ret_of [_] Tryz.func15 rfl Tryz.ntmps15 rfl ?_;have st:=St.init w [];obtain⟨w0,rfl⟩:∃ w0,w0=w:=⟨_,rfl⟩
 have hdl:=dec_len 18 x.natAbs (by simp only [Nat.reducePow,Nat.reduceAdd];omega);refine sr ?_;refine ya ?_;refine et (vk1 0 (sr ?_));refine vc_e (e_al (l:=[_,_,_,_,_,_,_,_,_,_,_,_,_,_,_,_,_,_,_,_]) st rfl rfl Tryz.zeroValue116 rfl ?_);intro b3 w hb3 st;refine et (vk2 0 3 (sr ?_));refine ya ?_;refine et (vk3 0 3 4 (sr ?_));refine ym ?_;refine vy (y_cvi rfl Tryz.underlying117 Tryz.underlying2 (rfl:_=IntKind.u64.wrap x)) ?_;refine ya ?_;refine et (vk4 0 3 4 5 ?_);refine vc_cut (w0:=w0) (M:=[]) (fun (_:Unit)=>[(0,.int .i64 x),(3,.pointer (some ⟨b3,0,none⟩)),(4,.int .i64 20),(5,.int .u64 (x.natAbs:Int))]) (fun _=>[.blk b3 (.cells (zs 20++bytesL []).toArray 116 (0,0))]) (fun _ _=>True) ?_ ?_;refine vc_seq ?_;refine vc_region ?_;refine ym ?_;refine vy (y_lss rfl rfl) ?_;refine et (vk5 0 3 4 5 9 ?_);refine vif ?_ ?_;intro hc9;(try simp only [dn] at hc9);refine vc_region ?_;refine ym ?_;refine vy (y_neg rfl (by rw [wrap_u64,wrap_u64];omega:_=(x.natAbs:Int))) ?_;refine ya ?_;refine vc_end ?_;exact vq_meet () ⟨rfl,rfl,rfl,rfl,trivial⟩ st trivial;intro hc9;(try simp only [dn] at hc9);refine vc_code_skip ?_;exact vq_meet () ⟨rfl,rfl,rfl,by simp only [find,Nat.beq];congr 2;rw [wrap_u64];omega,trivial⟩ st trivial;clear st;rintro ⟨⟩ w - st;refine vc_seq (vc_block ?_);refine vc_loop (w0:=_) (M:=_) (fun (y:Nat×Nat×List UInt8)=>[(0,.int .i64 x),(3,.pointer (some ⟨b3,0,none⟩)),(4,.int .i64 (y.1:Int)),(5,.int .u64 (y.2.1:Int))]) (fun y=>[.blk b3 (.cells (zs y.1++bytesL y.2.2).toArray 116 (0,0))]) (fun y _=>y.1+y.2.2.length=20∧dec y.2.1++y.2.2=dec x.natAbs∧y.2.1≤x.natAbs) (fun y=>y.1) (20,x.natAbs,[]) ⟨rfl,rfl,rfl,rfl,trivial⟩ st ⟨rfl,by simp,by simp⟩ ?_;rintro ⟨at_,n,t⟩ w ⟨hat,hdec,hnx⟩ st;dsimp only at *;have hdp:=dec_pos n;have hlen:=congrArg List.length hdec;rw [List.length_append] at hlen;obtain⟨hdg1,hdg2⟩:=digit_of (Nat.mod_lt n (by omega:0<10));refine vc_block (sr ?_);refine ym ?_;refine vy (y_sub rfl rfl (by omega:_=((at_ - 1:Nat):Int)) (by omega) (by omega)) ?_;refine ya ?_;refine et (vk4 0 3 4 5 (sr ?_));(iterate 2 refine ym ?_);refine vy (y_remk rfl rfl (by omega) (by omega) (by omega:_=((n % 10:Nat):Int))) ?_;refine vy (y_addk rfl rfl (by rw [wrap_u64];omega:_=((48+n % 10:Nat):Int))) ?_;refine vy (y_cvi rfl Tryz.underlying5 Tryz.underlying117 (by rw [wrap_u8];omega:_=((48+n % 10:Nat):Int))) ?_;refine vy (y_iaa (k:=(at_ - 1)) rfl rfl Tryz.underlying116 Tryz.sizeOf5 rfl (by omega)) ?_;refine vc_e (e_sta (l':=zs (at_ - 1)++bytesL (UInt8.ofNat (48+n % 10)::t)) st 0 rfl rfl rfl rfl Tryz.sizeOf5 rfl (by rw [zs_len];omega) (by rw [show 0+(at_ - 1)*1=at_ - 1 by omega];exact zs_set at_ t (UInt8.ofNat (48+n % 10)) _ (by rw [hdg2]) (by omega)) (.inr hb3) ?_);intro w st;dsimp only [setNth] at st;refine et (vk4 0 3 4 5 (sr ?_));refine ym ?_
 refine vy (y_quok rfl rfl (by omega) (by omega) (by rw [wrap_u64];omega:_=((n / 10:Nat):Int))) ?_;refine ya ?_;refine et (vk4 0 3 4 5 (sr ?_));refine ym ?_;refine vy (y_eqi rfl rfl) ?_;refine et (vk5 0 3 4 5 23 ?_);refine vif ?_ ?_;intro hc23;(try simp only [dn] at hc23);have hn:n<10:=by omega
 have hfin:UInt8.ofNat (48+n % 10)::t=dec x.natAbs:=by rw [← hdec,dec_small hn,Nat.mod_eq_of_lt hn];rfl
 rw [hfin] at st;have hlen2:=congrArg List.length hfin;simp only [List.length_cons] at hlen2;refine vc_exit (vq_block_other rfl (vq_then_exit (vq_block_exit (vq_then (vk3 0 3 4 (vc_seq (sr ?_)))))));refine ym ?_;refine vy (y_lss rfl rfl) ?_;refine et (vk3 3 4 25 ?_);refine vif ?_ ?_;intro hc25;(try simp only [dn] at hc25);refine sr ?_;refine ym ?_;refine vy (y_sub rfl rfl (by omega:_=((at_ - 2:Nat):Int)) (by omega) (by omega)) ?_;refine ya ?_;refine et (vk2 3 4 (vc_region ?_));refine ym ?_;refine vy (y_iaa (k:=(at_ - 2)) rfl rfl Tryz.underlying116 Tryz.sizeOf5 rfl (by omega)) ?_;refine vc_e (e_sta (l':=zs (at_ - 2)++bytesL (45::dec x.natAbs)) st 0 rfl rfl rfl rfl Tryz.sizeOf5 rfl (by rw [zs_len];omega) (by rw [show 0+(at_ - 2)*1=(at_ - 1) - 1 by omega];have:=zs_set (at_ - 1) (dec x.natAbs) 45 45 (by rfl) (by omega);rw [show at_ - 1 - 1=at_ - 2 by omega] at this ⊢;exact this) (.inr hb3) ?_);intro w st;dsimp only [setNth] at st;refine et (vk2 3 4 (sr ?_));refine ym ?_;refine vy (y_sla (i:=_) rfl rfl Tryz.underlying116 Tryz.sizeOf5 rfl (by omega)) ?_;refine vy (y_b2s rfl (blk_rd (st.res (i:=0) rfl)) (by(simp only [List.length_cons];omega)) Tryz.underlying118 Tryz.underlying5 Tryz.underlying9) ?_;refine ya ?_;refine et (vk1 2 (vc_ret ?_));refine vr1 st Tryz.results15 ?_;refine⟨?_,st.chg⟩;unfold shw;rw [if_pos (by omega)];intro hc25;(try simp only [dn] at hc25);refine kt (vk2 3 4 (sr ?_));refine ym ?_;refine vy (y_sla (i:=_) rfl rfl Tryz.underlying116 Tryz.sizeOf5 rfl (by omega)) ?_;refine vy (y_b2s rfl (blk_rd (st.res (i:=0) rfl)) (by omega) Tryz.underlying118 Tryz.underlying5 Tryz.underlying9) ?_;refine ya ?_;refine et (vk1 2 (vc_ret ?_));refine vr1 st Tryz.results15 ?_;refine⟨?_,st.chg⟩;unfold shw;rw [if_neg (by omega)];intro hc23;(try simp only [dn] at hc23);refine vc_code_skip (vq_block ?_);refine vq_again (at_ - 1,n / 10,UInt8.ofNat (48+n % 10)::t)  ⟨rfl,rfl,rfl,rfl,trivial⟩ st ?_ ?_;refine⟨by simp;omega,?_,by dsimp only;omega⟩;dsimp only;rw [← hdec,dec_big (n:=n) (by omega)];simp;dsimp only;omega
end Go.Proofs.YtkhpdpenlnhbiaaGreatDoor
namespace Go.Proofs.YtkhpdpenlnhbiaaGreatDoor
open Go.RowKit Sx LexS _root_.Go.Proofs.Tryz
end Go.Proofs.YtkhpdpenlnhbiaaGreatDoor
/- When a tree may be written,and its text: no program in sight. -/
namespace LexS
open Sx
def inn (op:Int) (x:Ex) (second:Bool):Bool:=decide (x.k=4) && (decide (lvlO x.op<lvlO op) || second && decide (lvlO x.op=lvlO op))
def rightE:Ex→Nat→Bool
  | .mk k op wd nm kids a,d=>decide (d≤64) && (
    if k=1 then decide (0≤wd∧op=0∧nm=[]∧kids.length=0)
    else if k=2 then isName nm && decide (op=0∧wd=0∧kids.length=0)
    else if k=3 then oneOp op && decide (wd=0∧nm=[]) && (match kids with | [x]=>rightE x (if x.k=4 then d+2 else d+1)|_=>false)
    else if k=4 then twoOp op && decide (wd=0∧nm=[]) && (match kids with | [x,y]=>rightE x (if inn op x false=true then d+1 else d) && rightE y (if inn op y true=true then d+1 else d)|_=>false)
    else false)
def par (b:Bool) (l:List UInt8):List UInt8:=if b=true then [40]++l++[41] else l
def hasN (k:Int):Bool:=decide (k=1∨k=2∨k=5)
def hasE (k:Int):Bool:=decide (k=1∨k=2∨k=3∨k=4∨k=6)
def hasB (k:Int):Bool:=decide (k=3∨k=4∨k=5)
def nmOk (b:Bool) (l:List UInt8):Bool:=if b=true then isName l else decide (l=[])
def rightX (b:Bool) (e:List Ex):Bool:=if b=true then (match e with | [x]=>rightE x 0|_=>false) else decide (e.length=0)
mutual
def rightS:Sm→Nat→Bool
  | .mk k nm other e body els a,d=>decide (1≤k∧k≤7) && nmOk (hasN k) nm && nmOk (decide (k=2)) other && rightX (hasE k) e && (hasB k || decide (body.length=0)) && (decide (k=3) || decide (els.length=0)) &&
    (!(hasB k || decide (0<els.length)) || decide (d<64)) && rightSs body (d+1) && rightSs els (d+1)
termination_by structural s=>s
def rightSs:List Sm→Nat→Bool
  | [],_=>true
  | s::r,d=>rightS s d && rightSs r d
termination_by structural l=>l
end
def dcOk (shared:Bool) (x:Dc):Bool:=isName x.nm && (if shared=true then decide (x.wd≠-9223372036854775808) else decide (x.wd=0))
def thOk (t:Th):Bool:=isName t.nm && t.locals.all (dcOk false) && rightSs t.body 1
def pgOk (p:Pg):Bool:=p.shared.all (dcOk true) && p.locks.all (dcOk false) && p.threads.all thOk
end LexS
namespace Go.Proofs.YtkhpdpenlnhbiaaGreatDoor
open Go.RowKit Sx LexS _root_.Go.Proofs.Tryz
theorem RowC.at {w:World} {S:Nat→Prop} {sz n:Nat} {oa:Option Addr} {vs:Nat→List Value} (h:RowC w S sz oa n vs) (hn:0<n) :
    ∃ b off,oa=some ⟨b,off,none⟩∧S b∧b<w.heap.size∧∀ j,j<n→(vs j).length=sz∧∀ i v,(vs j)[i]?=some v→w.cell? ⟨b,off+j*sz+i,none⟩=some v:=by
 rcases h with h|h;omega;exact h
abbrev szo {α:Type} [SizeOf α] (x:α):Nat:=SizeOf.sizeOf x
theorem ex_size {k op wd:Int} {nm:List UInt8} {kids:List Ex} {a:Int}:szo kids<szo (Ex.mk k op wd nm kids a):=by
 simp only [szo,Ex.mk.sizeOf_spec];omega
theorem mem_size {α:Type} [SizeOf α] {l:List α} {j:Nat} {x:α} (h:l[j]?=some x):szo x<szo l:=List.sizeOf_lt_of_mem (List.mem_of_getElem? h)
theorem sm_size {k:Int} {nm other:List UInt8} {e:List Ex} {body els:List Sm} {a:Int}:szo body<szo (Sm.mk k nm other e body els a)∧szo els<szo (Sm.mk k nm other e body els a):=by
 simp only [szo,Sm.mk.sizeOf_spec];omega
section
variable {w w':World} {S:Nat→Prop} {M:List Nat}
abbrev exL (e:Ex) (oa:Option Addr) (cap:Nat):List Value:=[.int .u8 e.k,.int .u8 e.op,.int .i64 e.wd,str e.nm,.slice oa e.kids.length cap,.int .i64 e.a]
theorem ExV.inv {e:Ex} {l:List Value} (h:ExV w S e l):∃ oa cap,l=exL e oa cap∧ExRow w S oa e.kids:=by
 cases h with
 | mk vs hr hk=>exact⟨_,_,rfl,vs,hr,hk⟩
theorem ExRow.at {oa:Option Addr} {es:List Ex} (h:ExRow w S oa es) (hn:0<es.length):∃ b off,oa=some ⟨b,off,none⟩∧S b∧b<w.heap.size∧
    ∀ j x,es[j]?=some x→∃ o c,ExV w S x (exL x o c)∧ExRow w S o x.kids∧∀ i v,(exL x o c)[i]?=some v→w.cell? ⟨b,off+j*6+i,none⟩=some v:=by
 obtain⟨vs,hr,hk⟩:=h;obtain⟨b,off,e,hb,hl,hc⟩:=RowC.at hr hn;refine⟨b,off,e,hb,hl,fun j x hx=>?_⟩;have hx':=hk j x hx;obtain⟨o,c,e2,hr2⟩:=ExV.inv hx';have:=(hc j (List.getElem?_eq_some_iff.1 hx).1).2;rw [e2] at hx' this;exact⟨o,c,hx',hr2,this⟩
abbrev smL (s:Sm) (oe ob ol:Option Addr) (ce cb cl:Nat):List Value:=[.int .u8 s.k,str s.nm,str s.other,.slice oe s.e.length ce,.slice ob s.body.length cb,.slice ol s.els.length cl,.int .i64 s.a]
theorem SmV.inv {s:Sm} {l:List Value} (h:SmV w S s l):∃ oe ob ol ce cb cl,l=smL s oe ob ol ce cb cl∧ExRow w S oe s.e∧SmRow w S ob s.body∧SmRow w S ol s.els:=by
 cases h with
 | mk vb vl he hb hbk hl hlk=>exact⟨_,_,_,_,_,_,rfl,he,⟨vb,hb,hbk⟩,⟨vl,hl,hlk⟩⟩
theorem SmRow.at {oa:Option Addr} {es:List Sm} (h:SmRow w S oa es) (hn:0<es.length):∃ b off,oa=some ⟨b,off,none⟩∧S b∧b<w.heap.size∧
    ∀ j s,es[j]?=some s→∃ oe ob ol ce cb cl,SmV w S s (smL s oe ob ol ce cb cl)∧ExRow w S oe s.e∧SmRow w S ob s.body∧SmRow w S ol s.els∧∀ i v,(smL s oe ob ol ce cb cl)[i]?=some v→w.cell? ⟨b,off+j*7+i,none⟩=some v:=by
 obtain⟨vs,hr,hk⟩:=h;obtain⟨b,off,e,hb,hl,hc⟩:=RowC.at hr hn;refine⟨b,off,e,hb,hl,fun j x hx=>?_⟩;have hx':=hk j x hx;obtain⟨oe,ob,ol,ce,cb,cl,e2,h1,h2,h3⟩:=SmV.inv hx';have:=(hc j (List.getElem?_eq_some_iff.1 hx).1).2;rw [e2] at hx' this;exact⟨oe,ob,ol,ce,cb,cl,hx',h1,h2,h3,this⟩
theorem DcRow.at {oa:Option Addr} {ds:List Dc} (h:DcRow w S oa ds) (hn:0<ds.length):∃ b off,oa=some ⟨b,off,none⟩∧S b∧b<w.heap.size∧
    ∀ j x,ds[j]?=some x→∀ i v,(dcL x)[i]?=some v→w.cell? ⟨b,off+j*3+i,none⟩=some v:=by
 obtain⟨b,off,e,hb,hl,hc⟩:=RowC.at h hn;refine⟨b,off,e,hb,hl,fun j x hx=>?_⟩;have hj:=(List.getElem?_eq_some_iff.1 hx).1;have:=(hc j hj).2;simp only [List.getD,hx,Option.getD_some] at this;exact this
abbrev thL (t:Th) (ol ob:Option Addr) (cl cb:Nat):List Value:=[str t.nm,.slice ol t.locals.length cl,.slice ob t.body.length cb,.int .i64 t.a]
theorem ThRow.at {oa:Option Addr} {ts:List Th} (h:ThRow w S oa ts) (hn:0<ts.length):∃ b off,oa=some ⟨b,off,none⟩∧S b∧b<w.heap.size∧
    ∀ j t,ts[j]?=some t→∃ ol ob cl cb,DcRow w S ol t.locals∧SmRow w S ob t.body∧∀ i v,(thL t ol ob cl cb)[i]?=some v→w.cell? ⟨b,off+j*4+i,none⟩=some v:=by
 obtain⟨vs,hr,hk⟩:=h;obtain⟨b,off,e,hb,hl,hc⟩:=RowC.at hr hn;refine⟨b,off,e,hb,hl,fun j x hx=>?_⟩;obtain⟨ol,cl,ob,cb,e2,h1,h2⟩:=hk j x hx;have:=(hc j (List.getElem?_eq_some_iff.1 hx).1).2;rw [e2] at this;exact⟨ol,ob,cl,cb,h1,h2,this⟩
end
theorem szo_kids (e:Ex):szo e.kids<szo e:=by cases e;exact ex_size
end Go.Proofs.YtkhpdpenlnhbiaaGreatDoor
/- Trees with each name and place turned: no program in sight. -/
namespace LexS
open Sx
section
variable (g:List UInt8→List UInt8) (h:Int→Int)
mutual
def trE:Ex→Ex
  | .mk k op wd nm kids a=>.mk k op wd (g nm) (trEs kids) (h a)
termination_by structural e=>e
def trEs:List Ex→List Ex
  | []=>[]
  | e::r=>trE e::trEs r
termination_by structural l=>l
end
mutual
def trS:Sm→Sm
  | .mk k nm other e body els a=>.mk k (g nm) (g other) (trEs g h e) (trSs body) (trSs els) (h a)
termination_by structural e=>e
def trSs:List Sm→List Sm
  | []=>[]
  | e::r=>trS e::trSs r
termination_by structural l=>l
end
def trD (d:Dc):Dc:=⟨g d.nm,d.wd,h d.a⟩
def trT (t:Th):Th:=⟨g t.nm,t.locals.map (trD g h),trSs g h t.body,h t.a⟩
def trP (p:Pg):Pg:=⟨p.shared.map (trD g h),p.locks.map (trD g h),p.threads.map (trT g h)⟩
end
variable {g:List UInt8→List UInt8} {h:Int→Int}
theorem trEs_map (l:List Ex):trEs g h l=l.map (trE g h):=by
  induction l with
  | nil=>rfl
  | cons x r ih=>simp only [trEs,List.map_cons,ih]
theorem trSs_map (l:List Sm):trSs g h l=l.map (trS g h):=by
  induction l with
  | nil=>rfl
  | cons x r ih=>simp only [trSs,List.map_cons,ih]
theorem trE_eq (e:Ex):trE g h e=.mk e.k e.op e.wd (g e.nm) (trEs g h e.kids) (h e.a):=by cases e;rfl
theorem trS_eq (s:Sm):trS g h s=.mk s.k (g s.nm) (g s.other) (trEs g h s.e) (trSs g h s.body) (trSs g h s.els) (h s.a):=by cases s;rfl
def mixL {α:Type} (f:α→α) (l:List α) (j:Nat):List α:=(l.take j).map f++l.drop j
theorem mixL_zero {α:Type} {f:α→α} (l:List α):mixL f l 0=l:=by simp [mixL]
theorem mixL_all {α:Type} {f:α→α} (l:List α):mixL f l l.length=l.map f:=by simp [mixL]
theorem mixL_get {α:Type} {f:α→α} {l:List α} {j:Nat} {x:α} (hx:l[j]?=some x):(mixL f l j)[j]?=some x:=by
  have hj:=(List.getElem?_eq_some_iff.1 hx).1
  unfold mixL
  rw [List.getElem?_append_right (by simp;omega),List.length_map,List.length_take,Nat.min_eq_left (by omega),Nat.sub_self,List.getElem?_drop]
  exact hx
theorem mixL_step {α:Type} {f:α→α} {l:List α} {j:Nat} {x:α} (hx:l[j]?=some x):(mixL f l j).set j (f x)=mixL f l (j+1):=by
  obtain⟨hj,e⟩:=List.getElem?_eq_some_iff.1 hx
  unfold mixL
  rw [List.set_append_right _ _ (by simp;omega),List.length_map,List.length_take,Nat.min_eq_left (by omega),Nat.sub_self,List.drop_eq_getElem_cons hj,List.set_cons_zero,List.take_succ_eq_append_getElem hj,e]
  simp
end LexS
/- The names of a tree: no program in sight. -/
namespace LexS
open Sx
mutual
def nmsE:Ex→List Wd
  | .mk k op wd nm kids a=>(if k=2 then [nm] else [])++nmsEs kids
termination_by structural e=>e
def nmsEs:List Ex→List Wd
  | []=>[]
  | e::r=>nmsE e++nmsEs r
termination_by structural l=>l
end
mutual
def nmsS:Sm→List Wd
  | .mk k nm other e body els a=>[nm,other]++nmsEs e++nmsSs body++nmsSs els
termination_by structural e=>e
def nmsSs:List Sm→List Wd
  | []=>[]
  | e::r=>nmsS e++nmsSs r
termination_by structural l=>l
end
def nmsT (t:Th):List Wd:=[t.nm]++t.locals.map (·.nm)++nmsSs t.body
def nmsP (p:Pg):List Wd:=(p.shared++p.locks).map (·.nm)++p.threads.flatMap nmsT
theorem nmsE_eq (e:Ex):nmsE e=(if e.k=2 then [e.nm] else [])++nmsEs e.kids:=by cases e;rfl
end LexS
/- When trees are the same: no program in sight. -/
namespace LexS
open Sx
mutual
def sameE:Ex→Ex→Bool
  | .mk k op wd nm kids a,y=>decide (k=y.k∧op=y.op∧wd=y.wd∧nm=y.nm) && sameEs kids y.kids
termination_by structural e=>e
def sameEs:List Ex→List Ex→Bool
  | [],l=>l.isEmpty
  | x::r,l=>match l with | []=>false|y::s=>sameE x y && sameEs r s
termination_by structural l=>l
end
theorem memE_lt {e x:Ex} (h:x∈e.kids):SizeOf.sizeOf x<SizeOf.sizeOf e:=by
  cases e with
  | mk k op wd nm kids a=>
    have:=List.sizeOf_lt_of_mem h
    simp only [Ex.kids] at this
    simp only [Ex.mk.sizeOf_spec];omega
theorem memS_lt {s x:Sm} (h:x∈s.body∨x∈s.els):SizeOf.sizeOf x<SizeOf.sizeOf s:=by
  cases s with
  | mk k nm other e body els a=>
    simp only [Sm.body,Sm.els] at h
    simp only [Sm.mk.sizeOf_spec]
    rcases h with h|h <;> (have:=List.sizeOf_lt_of_mem h;omega)
end LexS
/- How long a tree's text is: no program in sight. -/
namespace LexS
open Sx
end LexS
/- Places change no text: no program in sight. -/
namespace LexS
open Sx
section
variable {h:Int→Int}
end
section
variable {g:List UInt8→List UInt8} {h g':List UInt8→List UInt8} {k k':Int→Int}
end
section
variable {g:List UInt8→List UInt8} {k:Int→Int} (hk:∀ a,i64 a→i64 (k a))
include hk
theorem okE_tr:∀ (n:Nat) (e:Ex),SizeOf.sizeOf e=n→OkE e→OkE (trE g k e):=by
  intro n
  refine Nat.strongRecOn n fun n ih e hn hok=>?_
  subst hn
  rw [trE_eq,trEs_map]
  refine .mk hok.k hok.op hok.wd (hk _ hok.a) (by simpa using hok.kids.1) fun j x hx=>?_
  rw [List.getElem?_map] at hx
  cases hj:e.kids[j]? with
  | none=>rw [hj] at hx;cases hx
  | some y=>
    rw [hj] at hx
    cases hx
    exact ih _ (memE_lt (List.mem_of_getElem? hj)) y rfl (hok.kid hj)
theorem okEs_tr {l:List Ex} (h:OkEs l):OkEs (trEs g k l):=by
  rw [trEs_map]
  refine⟨by simpa using h.1,fun j x hx=>?_⟩
  rw [List.getElem?_map] at hx
  cases hj:l[j]? with
  | none=>rw [hj] at hx;cases hx
  | some y=>rw [hj] at hx;cases hx;exact okE_tr hk _ y rfl (h.2 j y hj)
theorem okS_tr:∀ (n:Nat) (s:Sm),SizeOf.sizeOf s=n→OkS s→OkS (trS g k s):=by
  intro n
  refine Nat.strongRecOn n fun n ih s hn hok=>?_
  subst hn
  rw [trS_eq,trSs_map,trSs_map]
  have key:∀ (l:List Sm),(∀ x∈l,SizeOf.sizeOf x<SizeOf.sizeOf s)→OkSs l→∀ (j:Nat) x,(l.map (trS g k))[j]?=some x→OkS x:=fun l hl h j x hx=>by
    rw [List.getElem?_map] at hx
    cases hj:l[j]? with
    | none=>rw [hj] at hx;cases hx
    | some y=>rw [hj] at hx;cases hx;exact ih _ (hl y (List.mem_of_getElem? hj)) y rfl (h.2 j y hj)
  exact .mk hok.k (hk _ hok.a) (okEs_tr hk hok.e) (by simpa using hok.body.1) (key _ (fun x hx=>memS_lt (.inl hx)) hok.body) (by simpa using hok.els.1) (key _ (fun x hx=>memS_lt (.inr hx)) hok.els)
theorem okSs_tr {l:List Sm} (h:OkSs l):OkSs (trSs g k l):=by
  rw [trSs_map]
  refine⟨by simpa using h.1,fun j x hx=>?_⟩
  rw [List.getElem?_map] at hx
  cases hj:l[j]? with
  | none=>rw [hj] at hx;cases hx
  | some y=>rw [hj] at hx;cases hx;exact okS_tr hk _ y rfl (h.2 j y hj)
theorem okD_tr {l:List Dc} (h:OkD l):OkD (l.map (trD g k)):=by
  refine⟨by simpa using h.1,fun j x hx=>?_⟩
  rw [List.getElem?_map] at hx
  cases hj:l[j]? with
  | none=>rw [hj] at hx;cases hx
  | some y=>rw [hj] at hx;cases hx;exact⟨(h.2 j y hj).1,hk _ (h.2 j y hj).2⟩
theorem okP_tr {p:Pg} (h:OkP p):OkP (trP g k p):=by
  refine⟨okD_tr hk h.1,okD_tr hk h.2.1,by simpa [trP] using h.2.2.1,fun j t hj=>?_⟩
  simp only [trP,List.getElem?_map] at hj
  cases hx:p.threads[j]? with
  | none=>rw [hx] at hj;cases hj
  | some y=>
    rw [hx] at hj
    cases hj
    obtain⟨h1,h2,h3⟩:=h.2.2.2 j y hx
    exact⟨okD_tr hk h1,okSs_tr hk h2,hk _ h3⟩
end
end LexS
/- A tree renamed: no program in sight. -/
namespace LexS
open Sx
theorem rightE_iff {e:Ex} {d:Nat}:rightE e d=true↔d≤64∧((e.k=1∧0≤e.wd∧e.op=0∧e.nm=[]∧e.kids=[])∨(e.k=2∧isName e.nm=true∧e.op=0∧e.wd=0∧e.kids=[])∨
    (e.k=3∧oneOp e.op=true∧e.wd=0∧e.nm=[]∧∃ x,e.kids=[x]∧rightE x (if x.k=4 then d+2 else d+1)=true)∨
    (e.k=4∧twoOp e.op=true∧e.wd=0∧e.nm=[]∧∃ x y,e.kids=[x,y]∧rightE x (if inn e.op x false=true then d+1 else d)=true∧rightE y (if inn e.op y true=true then d+1 else d)=true)):=by
  cases e with
  | mk k op wd nm kids a=>
    simp only [Ex.k,Ex.op,Ex.wd,Ex.nm,Ex.kids]
    rcases kids with _|⟨x,_|⟨y,_|⟨z,r⟩⟩⟩ <;>
    · simp only [rightE,Bool.and_eq_true,decide_eq_true_eq]
      refine and_congr_right fun _=>?_
      by_cases h1:k=1
      · subst h1;simp
      by_cases h2:k=2
      · subst h2;simp
      by_cases h3:k=3
      · subst h3;simp [and_assoc] <;> (try (intros;constructor <;> intro h <;> first|exact h|exact⟨_,rfl,h⟩|exact⟨_,_,rfl,rfl,h⟩|exact⟨_,rfl,_,rfl,h⟩|(obtain⟨_,rfl,h⟩:=h;exact h)|(obtain⟨_,_,rfl,rfl,h⟩:=h;exact h)|(obtain⟨_,rfl,_,rfl,h⟩:=h;exact h)))
      by_cases h4:k=4
      · subst h4;simp [and_assoc] <;> (try (intros;constructor <;> intro h <;> first|exact h|exact⟨_,rfl,h⟩|exact⟨_,_,rfl,rfl,h⟩|exact⟨_,rfl,_,rfl,h⟩|(obtain⟨_,rfl,h⟩:=h;exact h)|(obtain⟨_,_,rfl,rfl,h⟩:=h;exact h)|(obtain⟨_,rfl,_,rfl,h⟩:=h;exact h)))
      simp [h1,h2,h3,h4]
theorem rightX_iff {b:Bool} {e:List Ex}:rightX b e=true↔(b=true∧∃ x,e=[x]∧rightE x 0=true)∨(b=false∧e=[]):=by
  cases b
  · simp [rightX]
  · rcases e with _|⟨x,_|⟨y,r⟩⟩ <;> simp [rightX]
section
variable {g:Wd→Wd} {h:Int→Int}
theorem gE_k (e:Ex):(trE g h e).k=e.k:=by cases e;rfl
theorem gE_op (e:Ex):(trE g h e).op=e.op:=by cases e;rfl
theorem gE_inn (op:Int) (x:Ex) (b:Bool):inn op (trE g h x) b=inn op x b:=by unfold inn;rw [gE_k,gE_op]
def Keeps (g:Wd→Wd) (l:List Wd):Prop:=∀ s∈l,isName s=true→isName (g s)=true
theorem Keeps.mono {l l':List Wd} (k:Keeps g l) (hl:∀ s∈l',s∈l):Keeps g l':=fun s hs=>k s (hl s hs)
theorem rightE_ren (hg:g []=[]):∀ (n:Nat) (e:Ex),SizeOf.sizeOf e=n→∀ d,rightE e d=true→Keeps g (nmsE e)→rightE (trE g h e) d=true:=by
  intro n
  refine Nat.strongRecOn n fun n ih e hn d hr hk=>?_
  subst hn
  rw [rightE_iff] at hr ⊢
  have e1:(trE g h e).k=e.k:=by cases e;rfl
  have e2:(trE g h e).op=e.op:=by cases e;rfl
  have e3:(trE g h e).wd=e.wd:=by cases e;rfl
  have e4:(trE g h e).nm=g e.nm:=by cases e;rfl
  have e5:(trE g h e).kids=trEs g h e.kids:=by cases e;rfl
  rw [e1,e2,e3,e4,e5]
  rw [nmsE_eq] at hk
  obtain⟨hd,hr⟩:=hr
  refine⟨hd,?_⟩
  rcases hr with ⟨h1,h2,h3,h4,h5⟩|⟨h1,h2,h3,h4,h5⟩|⟨h1,h2,h3,h4,x,h5,h6⟩|⟨h1,h2,h3,h4,x,y,h5,h6,h7⟩
  · exact .inl ⟨h1,h2,h3,by rw [h4,hg],by rw [h5];rfl⟩
  · exact .inr (.inl ⟨h1,hk _ (by simp [h1]) h2,h3,h4,by rw [h5];rfl⟩)
  · refine .inr (.inr (.inl ⟨h1,h2,h3,by rw [h4,hg],trE g h x,by rw [h5];rfl,?_⟩))
    rw [gE_k]
    exact ih _ (memE_lt (by simp [h5])) x rfl _ h6 (hk.mono fun s hs=>by rw [h5];simp [nmsEs,hs])
  · refine .inr (.inr (.inr ⟨h1,h2,h3,by rw [h4,hg],trE g h x,trE g h y,by rw [h5];rfl,?_,?_⟩))
    · rw [gE_inn];exact ih _ (memE_lt (by simp [h5])) x rfl _ h6 (hk.mono fun s hs=>by rw [h5];simp [nmsEs,hs])
    · rw [gE_inn];exact ih _ (memE_lt (by simp [h5])) y rfl _ h7 (hk.mono fun s hs=>by rw [h5];simp [nmsEs,hs])
theorem rightX_ren (hg:g []=[]) {b:Bool} {l:List Ex} (hr:rightX b l=true) (hk:Keeps g (nmsEs l)):rightX b (trEs g h l)=true:=by
  rw [rightX_iff] at hr ⊢
  rcases hr with ⟨h1,x,rfl,h2⟩|⟨h1,rfl⟩
  · exact .inl ⟨h1,trE g h x,rfl,rightE_ren hg _ x rfl 0 h2 (hk.mono fun s hs=>by simp [nmsEs,hs])⟩
  · exact .inr ⟨h1,rfl⟩
theorem nmOk_ren (hg:g []=[]) {b:Bool} {s:Wd} (hr:nmOk b s=true) (hk:isName s=true→isName (g s)=true):nmOk b (g s)=true:=by
  unfold nmOk at hr ⊢
  cases b <;> simp_all
theorem gSs_len (l:List Sm):(trSs g h l).length=l.length:=by rw [trSs_map,List.length_map]
mutual
theorem rightS_ren (hg:g []=[]):∀ (s:Sm) (d:Nat),rightS s d=true→Keeps g (nmsS s)→rightS (trS g h s) d=true
  | .mk k nm other e body els a,d,hr,hk=>by
    simp only [rightS,Bool.and_eq_true] at hr
    simp only [nmsS] at hk
    obtain⟨⟨⟨⟨⟨⟨⟨⟨h1,h2⟩,h3⟩,h4⟩,h5⟩,h6⟩,h7⟩,h8⟩,h9⟩:=hr
    simp only [trS,rightS,Bool.and_eq_true,gSs_len]
    exact⟨⟨⟨⟨⟨⟨⟨⟨h1,nmOk_ren hg h2 (hk nm (by simp))⟩,nmOk_ren hg h3 (hk other (by simp))⟩,rightX_ren hg h4 (hk.mono fun s hs=>by simp [hs])⟩,h5⟩,h6⟩,h7⟩,
      rightSs_ren hg body _ h8 (hk.mono fun s hs=>by simp [hs])⟩,rightSs_ren hg els _ h9 (hk.mono fun s hs=>by simp [hs])⟩
termination_by structural s=>s
theorem rightSs_ren (hg:g []=[]):∀ (l:List Sm) (d:Nat),rightSs l d=true→Keeps g (nmsSs l)→rightSs (trSs g h l) d=true
  | [],d,hr,hk=>rfl
  | s::r,d,hr,hk=>by
    simp only [rightSs,Bool.and_eq_true] at hr
    simp only [nmsSs] at hk
    simp only [trSs,rightSs,Bool.and_eq_true]
    exact⟨rightS_ren hg s d hr.1 (hk.mono fun s hs=>by simp [hs]),rightSs_ren hg r d hr.2 (hk.mono fun s hs=>by simp [hs])⟩
termination_by structural l=>l
end
theorem pgOk_ren (hg:g []=[]) {p:Pg} (hr:pgOk p=true) (hk:Keeps g (nmsP p)):pgOk (trP g h p)=true:=by
  have hD:∀ (b:Bool) (l:List Dc),l.all (dcOk b)=true→Keeps g (l.map (·.nm))→(l.map (trD g h)).all (dcOk b)=true:=fun b l hl hk=>by
    rw [List.all_eq_true] at hl ⊢
    intro x hx
    obtain⟨y,hy,rfl⟩:=List.mem_map.1 hx
    have h1:=hl y hy
    simp only [dcOk,trD,Bool.and_eq_true] at h1 ⊢
    exact⟨hk _ (List.mem_map.2 ⟨y,hy,rfl⟩) h1.1,h1.2⟩
  simp only [pgOk,Bool.and_eq_true] at hr ⊢
  obtain⟨⟨h1,h2⟩,h3⟩:=hr
  refine⟨⟨hD _ _ h1 (hk.mono fun s hs=>?_),hD _ _ h2 (hk.mono fun s hs=>?_)⟩,?_⟩
  · rw [nmsP,List.map_append];exact List.mem_append_left _ (List.mem_append_left _ hs)
  · rw [nmsP,List.map_append];exact List.mem_append_left _ (List.mem_append_right _ hs)
  · rw [List.all_eq_true] at h3 ⊢
    intro x hx
    obtain⟨t,ht,rfl⟩:=List.mem_map.1 hx
    have h4:=h3 t ht
    have hkt:Keeps g (nmsT t):=hk.mono fun s hs=>by rw [nmsP];exact List.mem_append_right _ (List.mem_flatMap.2 ⟨t,ht,hs⟩)
    simp only [thOk,trT,Bool.and_eq_true] at h4 ⊢
    exact⟨⟨hkt _ (by simp [nmsT]) h4.1.1,hD _ _ h4.1.2 (hkt.mono fun s hs=>by simp only [nmsT];exact List.mem_append_left _ (List.mem_append_right _ hs))⟩,rightSs_ren hg _ _ h4.2 (hkt.mono fun s hs=>by simp only [nmsT];exact List.mem_append_right _ hs)⟩
end
end LexS
/- The tokens of a tree,and that they are parsed as the tree: expressions. -/
namespace ParS
open Sx LexS
section
variable (k op wd:Int) (nm:List UInt8) (kids:List Ex) (a:Int)
end
theorem flatE_len (u:List Tok→PR Ex) (hu:Goes u):∀ (n:Nat) (r:List Tok) (l:List Flat) (r':List Tok),flatE u n r=.ok (l,r')→r'.length≤r.length
  | 0,r,l,r',h=>by simp [flatE] at h
  | n+1,r,l,r',h=>by
    simp only [flatE] at h
    cases hop:opT (here r) with
    | none=>rw [hop] at h;cases h;exact Nat.le_refl _
    | some op=>
      rw [hop] at h
      simp only at h
      cases hx:u r.tail with
      | error f=>rw [hx] at h;cases h
      | ok p=>
        obtain⟨x,r1⟩:=p
        rw [hx] at h
        simp only at h
        cases hf:flatE u n r1 with
        | error f=>rw [hf] at h;cases h
        | ok q=>
          obtain⟨l1,r2⟩:=q
          rw [hf] at h
          cases h
          have:=flatE_len u hu n r1 l1 _ hf
          have:=hu _ _ _ hx
          have:=tail_lt (opT_ne hop)
          omega
theorem exprW_goes {u:List Tok→PR Ex} (hu:Goes u):Goes (exprW u):=by
  intro r x r' h
  unfold exprW at h
  cases hx:u r with
  | error f=>rw [hx] at h;cases h
  | ok p=>
    obtain⟨y,r1⟩:=p
    rw [hx] at h
    simp only at h
    cases hf:flatE u (r1.length+1) r1 with
    | error f=>rw [hf] at h;cases h
    | ok q=>
      obtain⟨l1,r2⟩:=q
      rw [hf] at h
      cases h
      have:=flatE_len u hu _ _ _ _ hf
      have:=hu _ _ _ hx
      omega
theorem leaf_goes (e:Nat):Goes (leafP e):=by
  intro r x r' h
  unfold leafP at h
  split at h
  · rename_i hk;cases h;exact tail_lt (kind_ne hk (by decide))
  · split at h
    · rename_i hk;cases h;exact tail_lt (kind_ne hk (by decide))
    · cases h
theorem unary_goes (e:Nat):∀ m,Goes (unaryP e m)
  | 0=>by
    intro r x r' h
    simp only [unaryP] at h
    split at h
    · cases h
    · exact leaf_goes e r x r' h
  | m+1=>by
    intro r x r' h
    simp only [unaryP] at h
    split at h
    · rename_i hi
      have h0:=tail_lt (inner_ne hi)
      split at h
      · cases hx:exprW (unaryP e m) r.tail with
        | error f=>rw [hx] at h;cases h
        | ok p=>
          obtain⟨y,r1⟩:=p
          rw [hx] at h
          simp only at h
          have h1:=exprW_goes (unary_goes e m) _ _ _ hx
          cases hw:want e [41] r1 with
          | error f=>rw [hw] at h;cases h
          | ok r2=>
            rw [hw] at h
            cases h
            obtain⟨h2,rfl⟩:=want_ok hw
            have:=tail_lt (isT_ne h2)
            omega
      · cases hx:unaryP e m r.tail with
        | error f=>rw [hx] at h;cases h
        | ok p=>
          obtain⟨y,r1⟩:=p
          rw [hx] at h
          cases h
          have h1:=unary_goes e m _ _ _ hx
          omega
    · exact leaf_goes e r x r' h
section
variable {e:Nat}
end
end ParS
/- The parser does not see places: tokens that are one but for places give trees that are one but for places. -/
namespace ParS
open Sx LexS
section
variable {e e':Nat}
def rE (x y:Ex):Prop:=sameE x y=true
end
end ParS
/- A text that is printed is cut into the tokens of its tree. -/
namespace ParS
open Sx LexS
end ParS
/- The tokens of statements and programs,and that they are parsed as what they are of. -/
namespace ParS
open Sx LexS
section
variable {e:Nat}
end
end ParS
/- A program's text that is printed is cut into its tokens,and parsed as it was,but for places. -/
namespace ParS
open Sx LexS
section
variable {e:Nat}
end
end ParS
/- What an expression of numbers comes to;the nodes to which it is lowered;what they do: no program in sight. -/
namespace ParS
open Sx LexS
def wI (x:Int):Int:=Go.IntKind.i64.wrap x
def wU (x:Int):Int:=Go.IntKind.u64.wrap x
def wSh (b:Int):Nat:=min (wU ((BitVec.ofInt 64 (wU b)) &&& (BitVec.ofInt 64 63)).toNat).toNat 64
def wT (p:Prop) [Decidable p]:Int:=if p then 1 else 0
def wDiv (a b:Int):Int:=if b=0 then 0 else if b= -1 then wI (0 - a) else wI (a.tdiv b)
def wTwo (op a b:Int):Int:=
  if op=1 then wI (a+b) else if op=2 then wI (a - b) else if op=3 then wI (a*b) else if op=4 then wDiv a b
  else if op=5 then (if b=0 then a else wI (a - wI (wDiv a b*b)))
  else if op=6 then wI ((BitVec.ofInt 64 a) &&& (BitVec.ofInt 64 b)).toNat
  else if op=7 then wI ((BitVec.ofInt 64 a) ||| (BitVec.ofInt 64 b)).toNat
  else if op=8 then wI ((BitVec.ofInt 64 a) ^^^ (BitVec.ofInt 64 b)).toNat
  else if op=9 then wI (a*2 ^ wSh b) else if op=10 then a.fdiv (2 ^ wSh b)
  else if op=11 then wT (a=b) else if op=12 then wT (¬ a=b) else if op=13 then wT (a<b) else if op=14 then wT (a≤b)
  else if op=15 then wT (b<a) else wT (b≤a)
def wOne (op a:Int):Int:=if op=17 then wI (0 - a) else wT (a=0)
def doW (op a b:Int):Int:=wTwo op a b
def oneW (op a:Int):Int:=wOne op a
def rkX:Ex→Int×Bool
  | .mk k op wd nm kids a=>if k=1 then (wd,true)
    else if k=3 then (match kids with | [x]=>(oneW op (rkX x).1,(rkX x).2)|_=>(0,false))
    else if k=4 then (match kids with | [x,y]=>(doW op (rkX x).1 (rkX y).1,(rkX x).2 && (rkX y).2)|_=>(0,false))
    else (0,false)
inductive Vl where
  | num (w:Int)
  | slot (k:Nat)
inductive Nd where
  | set (op:Int) (s:Nat) (a b:Vl)
  | prt (a:Vl)
  | fin
def vlW (σ:List Int):Vl→Int
  | .num w=>w
  | .slot k=>σ.getD k 0
def setW (σ:List Int) (op:Int) (a b:Vl):Int:=if twoOp op=true then doW op (vlW σ a) (vlW σ b) else oneW op (vlW σ a)
def stp (σ:List Int):Nd→List Int
  | .set op s a b=>σ.set s (setW σ op a b)
  | _=>σ
def runN (σ:List Int) (l:List Nd):List Int:=l.foldl stp σ
def inV (s:Nat):Vl→Prop
  | .num w=>True
  | .slot k=>k<s
def okNd (s:Nat):Nd→Prop
  | .set op t a b=>0<op∧op<19∧t<s∧inV s a∧inV s b∧(twoOp op=false→b=.num 0)
  | _=>False
theorem inV.mono {s t:Nat} {v:Vl} (h:inV s v) (hs:s≤t):inV t v:=by cases v with|num w=>trivial|slot k=>exact Nat.lt_of_lt_of_le h hs
structure Lowers (x:Ex) (s:Nat) (r:List Nd×Nat×Vl):Prop where
  le:s≤r.2.1
  v:inV r.2.1 r.2.2
  ok:∀ y∈r.1,okNd r.2.1 y
  cnt:r.2.1=s+r.1.length
  run:∀ σ,r.2.1≤σ.length→(runN σ r.1).length=σ.length∧(∀ k,k<s→(runN σ r.1).getD k 0=σ.getD k 0)∧vlW (runN σ r.1) r.2.2=(rkX x).1
theorem szEs_get:∀ {l:List Ex} {j:Nat} {x:Ex},l[j]?=some x→szE x≤szEs l
  | [],_,_,h=>by simp at h
  | y::r,0,x,h=>by simp at h;subst h;simp only [szEs];omega
  | y::r,j+1,x,h=>by
    have:=szEs_get (l:=r) (j:=j) (by simpa using h)
    simp only [szEs];omega
theorem szE_kid {e x:Ex} {j:Nat} (h:e.kids[j]?=some x):szE x<szE e:=by
  cases e with
  | mk k op wd nm kids a=>
    have:=szEs_get h
    simp only [Ex.kids] at this
    simp only [szE];omega
end ParS
