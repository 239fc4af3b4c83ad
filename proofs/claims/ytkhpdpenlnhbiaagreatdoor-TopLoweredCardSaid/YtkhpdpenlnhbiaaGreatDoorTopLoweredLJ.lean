/- A part of the proof: contracts of functions and plain laws; each theorem says its own conditions. -/
import Derived.Test.YtkhpdpenlnhbiaaGreatDoorTopLoweredK7
import Derived.Test.YtkhpdpenlnhbiaaGreatDoorTopLoweredLI
import Derived.Test.YtkhpdpenlnhbiaaGreatDoorTopLoweredK2
namespace Go.Proofs.YtkhpdpenlnhbiaaGreatDoor
open Go.RowKit Sx LexS ParS _root_.Go.Proofs.Tryz
set_option linter.unusedVariables false
set_option linter.unusedSimpArgs false
theorem Tryz.info134:Tryz.prog.info? 134=some Tryz.t134:=by kernel_rfl
theorem Tryz.info43:Tryz.prog.info? 43=some Tryz.t43:=by kernel_rfl
structure Dg where
 nm:Wd
 lc:Nat
 N:List Gn
 s:Nat
 on:Option Addr
 zn:Nat
abbrev gcell (d:Dg):List Value:=[str d.nm,.int .i64 (d.lc:Int),.int .i64 (d.s:Int),.slice d.on d.N.length d.zn]
def dg0:Dg:=⟨[],0,[],0,none,0⟩
def gn0:Gn:=mkG 0 0 0 0 (.num 0) (.num 0)
def NdRow (w:World) (T:Nat→Prop) (on:Option Addr) (N:List Gn):Prop:=RowC w T 13 on N.length (fun i=>gnC (N.getD i gn0) i)
def GrRow (w:World) (T:Nat→Prop) (og:Option Addr) (D:List Dg):Prop:=RowC w T 4 og D.length (fun j=>gcell (D.getD j dg0))∧∀ d∈D,NdRow w T d.on d.N
theorem GrRow.kept {w w':World} {T:Nat→Prop} {og:Option Addr} {D:List Dg} (h:GrRow w T og D) (k:Same T w w'):GrRow w' T og D:=⟨RowC.kept h.1 k,fun d hd=>RowC.kept (h.2 d hd) k⟩
def dgB (D:List Dg):List Nat:=D.flatMap fun d=>obk d.on
def gdR (base:Nat) (D:List Dg):Res:=.tree (dgB D) fun w=>(∀ d∈D,w.ownsRow 0 83 13 (.slice d.on d.N.length d.zn) d.N.length (gnL d.N 0))∧∀ k∈dgB D,base≤k
theorem dgB_app (a b:List Dg):dgB (a++b)=dgB a++dgB b:=by simp [dgB]
theorem gdR_holds {base base':Nat} {D:List Dg} {w:World} (h:∀ d∈D,w.ownsRow 0 83 13 (.slice d.on d.N.length d.zn) d.N.length (gnL d.N 0)) (hm:∀ k∈dgB D,base≤k):(gdR base D).holds base' w:=
 ⟨⟨h,hm⟩,fun k hk=>by
   obtain⟨d,hd,hk⟩:=List.mem_flatMap.1 hk
   exact(owns_lt (h d hd) k hk).2,fun a b _ hk hp=>⟨fun d hd=>owns_kept (hp.1 d hd) fun x hx=>hk x (List.mem_flatMap.2 ⟨d,hd,hx⟩),hp.2⟩⟩
theorem _root_.Sx.St.gjoin {w0 w:World} {hs:List Res} {D:List Dg} {d:Dg} (st:St w0 [] (gdR w0.heap.size D::ndR [] w0.heap.size (.slice d.on d.N.length d.zn) d.N::hs) w):St w0 [] (gdR w0.heap.size (D++[d])::hs) w:=by
 obtain⟨b1,b2⟩:=List.pairwise_cons.1 st.nodup
 obtain⟨b2,b3⟩:=List.pairwise_cons.1 b2
 have h1:=(st.res (i:=0) rfl).1
 have h2:=(st.res (i:=1) rfl).1
 have hd1:dgB [d]=obk d.on:=by simp [dgB]
 have hat:(ndR [] w0.heap.size (.slice d.on d.N.length d.zn) d.N).at?=obk d.on:=by rw [frnZ_ats,obk_own]
 refine(st.drop (hs':=hs) (.cons _ (.cons _ (List.Sublist.refl _)))).add (gdR_holds ?_ ?_) ?_
 ·intro x hx
  rcases List.mem_append.1 hx with hx|hx
  ·exact h1.1 x hx
  ·simp only [List.mem_singleton] at hx
   subst hx;exact h2.1
 ·intro k hk
  rw [dgB_app,hd1] at hk
  rcases List.mem_append.1 hk with hk|hk
  ·exact h1.2 k hk
  ·rw [← obk_own (n:=d.N.length) (cap:=d.zn)] at hk
   exact(h2.2 k (Option.mem_toList.1 hk)).resolve_left (by simp)
 intro x hx k hk
 have hk:k∈dgB (D++[d]):=hk
 rw [dgB_app,hd1] at hk
 rcases List.mem_append.1 hk with hk|hk
 ·exact b1 x (.tail _ hx) k hk
 ·exact b2 x hx k (hat▸hk)
theorem _root_.Sx.St.loNew {w0 w:World} {M:List Nat} {hs:List Res} {c:Cx} {xb s:Nat} (st:St w0 M (loX c xb s (.slice none 0 0) (.slice none 0 0) false::hs) w) (hx:w0.heap.size≤xb):St w0 M (loG M w0.heap.size c xb ⟨[],s,[],false⟩ (.slice none 0 0) (.slice none 0 0) []::hs) w:=by
 have n1:∀ r:List Res,∀ x∈r,∀ k∈(clR M w0.heap.size xb []).at?,k∉x.at?:=fun r x hx k hk=>by simp [clR_at,clB] at hk
 have n2:∀ E size n xs,∀ r:List Res,∀ x∈r,∀ k∈(frnZ M w0.heap.size E size (.slice none 0 0) n xs).at?,k∉x.at?:=fun E size n xs r x hx k hk=>by simp [frnZ_ats,Value.ownBlock] at hk
 have hd:St w0 M hs w:=st.drop (.cons _ (List.Sublist.refl _))
 refine St.loClose (N:=[]) (cl:=[]) _ ((((hd.add (r:=clR M w0.heap.size xb []) (clR_holds (by simp) (by simp [clB])) (n1 _)).add (r:=opR M w0.heap.size (.slice none 0 0) []) (frnZ_holds (World.ownsRow_nil _ _ _ _) (by simp [Value.ownBlock])) (n2 _ _ _ _ _)).add (r:=ndR M w0.heap.size (.slice none 0 0) []) (frnZ_holds (World.ownsRow_nil _ _ _ _) (by simp [Value.ownBlock])) (n2 _ _ _ _ _)).addB (st.res (i:=0) rfl) ?_) rfl (.inr hx) (by simp) (by simp)
 intro x hx
 rcases List.mem_cons.1 hx with rfl|hx
 ·simp [frnZ_ats,Value.ownBlock]
 ·rcases List.mem_cons.1 hx with rfl|hx
  ·simp [frnZ_ats,Value.ownBlock]
  ·rcases List.mem_cons.1 hx with rfl|hx
   ·simp [clR_at,clB]
   ·exact(List.pairwise_cons.1 st.nodup).1 x hx xb (.head _)
abbrev grT (p:Pg) (t:Th):Option (List Gn×Nat):=grL t.locals p.shared p.locks t.body
def GrsOf (p:Pg) (ts:List Th) (D:List Dg):Prop:=D.length=ts.length∧∀ (j:Nat) t,ts[j]?=some t→∃ d,D[j]?=some d∧d.nm=t.nm∧d.lc=t.locals.length∧grT p t=some (d.N,d.s)
theorem GrsOf.snoc {p:Pg} {ts:List Th} {j:Nat} {D:List Dg} {t:Th} {d:Dg} (h:GrsOf p (ts.take j) D) (ht:ts[j]?=some t) (h1:d.nm=t.nm) (h2:d.lc=t.locals.length) (h3:grT p t=some (d.N,d.s)):GrsOf p (ts.take (j+1)) (D++[d]):=by
 have hj:=(List.getElem?_eq_some_iff.1 ht).1
 have e:ts.take (j+1)=ts.take j++[t]:=by rw [List.take_add_one,ht];rfl
 rw [e]
 refine⟨by rw [List.length_append,List.length_append,h.1];rfl,fun i u hi=>?_⟩
 by_cases hlt:i<(ts.take j).length
 ·rw [List.getElem?_append_left hlt] at hi
  obtain⟨x,hx,hr⟩:=h.2 i u hi
  exact⟨x,by rw [List.getElem?_append_left (by rw [h.1];exact hlt)];exact hx,hr⟩
 ·have hi2:i=(ts.take j).length:=by
   have:=(List.getElem?_eq_some_iff.1 hi).1
   simp only [List.length_append,List.length_singleton] at this
   omega
  subst hi2
  rw [List.getElem?_append_right (Nat.le_refl _),Nat.sub_self] at hi
  simp only [List.getElem?_cons_zero,Option.some.injEq] at hi
  subst hi
  exact⟨d,by rw [← h.1,List.getElem?_append_right (Nat.le_refl _),Nat.sub_self];rfl,h1,h2,h3⟩
def UnV (w:World) (T:Nat→Prop) (p:Pg) (D:List Dg) (v:Value):Prop:=∃ o1 c1 o2 c2 og cg,v=.agg [.slice o1 p.shared.length c1,.slice o2 p.locks.length c2,.slice og D.length cg].toArray∧DcRow w T o1 p.shared∧DcRow w T o2 p.locks∧GrRow w T og D
abbrev nil3:Value:=.agg [.slice none 0 0,.slice none 0 0,.slice none 0 0].toArray
def LowP (p:Pg) (w:World) (v:Value) (w':World):Prop:=Chg [] w w'∧((ckP p=false∧v=.tuple #[nil3,.int .i64 50])∨(ckP p=true∧(∃ t∈p.threads,grT p t=none)∧v=.tuple #[nil3,.int .i64 3])∨(ckP p=true∧∃ D uv,v=.tuple #[uv,.int .i64 0]∧GrsOf p p.threads D∧UnV w' (w.heap.size≤·) p D uv))
theorem grT_eq (p:Pg) (t:Th) (Lb:LS) (h:blL t.locals p.shared p.locks t.body ⟨[],t.locals.length,[],false⟩=Lb):grT p t=if Lb.ov=true then none else if (putL (mkG 9 0 0 0 (.num 0) (.num 0)) Lb).ov=true then none else some ((putL (mkG 9 0 0 0 (.num 0) (.num 0)) Lb).N,(putL (mkG 9 0 0 0 (.num 0) (.num 0)) Lb).s):=by
 subst h;rfl
theorem put_last {g:Gn} {L:LS} (h:(putL g L).ov=false) (hn:g.nx=0):0<(putL g L).N.length∧ptc 0 (putL g L).N ((putL g L).N.length - 1,false)=(putL g L).N:=by
 obtain⟨-,-,e⟩:=put_ov h
 have hN:(putL g L).N=leadL L.op L.N.length L.N++[g]:=by rw [e]
 rw [hN]
 refine⟨by simp,?_⟩
 apply List.ext_getElem?
 intro i
 simp only [ptc,List.getElem?_modify]
 have hl:(leadL L.op L.N.length L.N++[g]).length - 1=(leadL L.op L.N.length L.N).length:=by simp
 rw [hl]
 by_cases hi:(leadL L.op L.N.length L.N).length=i
 ·subst hi
  rw [List.getElem?_append_right (Nat.le_refl _),Nat.sub_self]
  simp only [List.getElem?_cons_zero,Option.map_some,if_true,setT,Bool.false_eq_true,if_false]
  cases g;simp only at hn;subst hn;rfl
 ·simp [hi]
theorem grs_chunk:∀ {D:List Dg} {j:Nat} {d:Dg},D[j]?=some d→((D.flatMap gcell).drop (j*4)).take 4=gcell d
 | [],j,d,h=>by simp at h
 | x::r,0,d,h=>by
  simp only [List.getElem?_cons_zero,Option.some.injEq] at h
  subst h;rfl
 | x::r,j+1,d,h=>by
  rw [List.getElem?_cons_succ] at h
  rw [List.flatMap_cons,show (j+1)*4=(gcell x).length+j*4 by show _=4+j*4;omega,List.drop_append]
  have a2:∀ n,(gcell x).drop ((gcell x).length+n)=[]:=fun n=>List.drop_of_length_le (Nat.le_add_right _ _)
  simp only [Nat.add_sub_cancel_left,a2,List.nil_append]
  exact grs_chunk h
theorem row_eq {w:World} {T:Nat→Prop} {sz n:Nat} {oa:Option Addr} {f g:Nat→List Value} (h:RowC w T sz oa n f) (e:∀ j<n,f j=g j):RowC w T sz oa n g:=by
 rcases h with h|⟨b,off,h1,h2,h3,h4⟩
 ·exact .inl h
 ·exact .inr ⟨b,off,h1,h2,h3,fun j hj=>e j hj▸h4 j hj⟩
theorem dcRow_own {w0 w:World} {hs:List Res} {i cap:Nat} {oa:Option Addr} {l:List Dc} (st:St w0 [] hs w) (hi:nth hs i=some (.own (.slice oa l.length cap) 134 3 l.length (l.flatMap dcL))):DcRow w (w0.heap.size≤·) oa l:=by
 obtain⟨h1,h2⟩:=st.ownNw hi
 exact DcR.toRow (tD:=134) (S:=obk oa) ⟨h1,rfl⟩ (fun b hb=>h2.2 b hb)
theorem szP_th {p:Pg} {j:Nat} {x:Th} (hx:p.threads[j]?=some x):szSs x.body≤szP p∧x.locals.length≤szP p:=by
 have h:∀ (l:List Th) (j:Nat),l[j]?=some x→szSs x.body≤szTs l∧x.locals.length≤szTs l:=by
  intro l
  induction l with
  | nil=>intro j h;simp at h
  | cons t r ih=>
   intro j h
   cases j with
   | zero=>
    simp only [List.getElem?_cons_zero,Option.some.injEq] at h
    subst h
    have:∀ l:List Dc,l.length≤szDs l:=fun l=>by
     induction l with
     | nil=>exact Nat.le_refl _
     | cons d r ih=>simp only [List.length_cons,szDs];omega
    have:=this t.locals
    simp only [szTs]
    omega
   | succ j=>
    have:=ih j (by simpa using h)
    simp only [szTs]
    omega
 have:=h p.threads j hx
 unfold szP
 omega
set_option maxHeartbeats 4000000 in
theorem llower_any (p:Pg) (n0:Nat) (os ol ot:Option Addr) (cs cl ct:Nat) (hpg:pgOk p=true) (hok:OkP p) (hsz:szP p≤300000000) (w:World) (hSh:DcRow w (·<n0) os p.shared) (hL:DcRow w (·<n0) ol p.locks) (hT:ThRow w (·<n0) ot p.threads) (hn0:n0≤w.heap.size):Ret Tryz.prog 7 [.agg [.slice os p.shared.length cs,.slice ol p.locks.length cl,.slice ot p.threads.length ct].toArray] w (LowP p w):=by
 refine ret_of [_] func7 rfl ntmps7 rfl ?_
 have st:=St.init w []
 obtain⟨w0,rfl⟩:∃ w0,w0=w:=⟨_,rfl⟩
 have ls:=hok.1.1
 have ll:=hok.2.1.1
 have lt:=hok.2.2.1
 obtain⟨⟨hp1,hp2⟩,hp3⟩:(p.shared.all (dcOk true)=true∧p.locks.all (dcOk false)=true)∧p.threads.all thOk=true:=by simpa [pgOk] using hpg
 refine sr ?_
 refine vc_e (e_bx (l:=[_,_,_]) st rfl rfl rfl rfl ?_)
 intro b1 w hb1 st
 refine vc_e (e_al (l:=[_,_,_]) st rfl rfl zeroValue36 rfl ?_)
 intro b2 w hb2 st
 refine ya ?_
 refine et (vk2 1 2 (vc_seq (sr ?_)))
 refine yla st 1 [_,_,_] isAgg26 sizeOf26 ?_
 refine vc_e (e_call [_] rfl rfl call6 rfl (ccheck_any p n0 os ol ot cs cl ct hpg hok _ (hSh.kept st.sm) (hL.kept st.sm) (hT.kept st.sm) (Nat.le_trans hn0 st.chg.size)) ?_)
 rintro _ w ⟨⟨fp,fr,rfl⟩,cw⟩
 replace st:=st.call0 cw
 refine ym ?_
 iterate 2 refine vy (y_ext rfl rfl) ?_
 refine vc_e (e_al (l:=[_,_]) st rfl rfl zeroValue29 rfl ?_)
 intro b5 w hb5 st
 refine ya ?_
 refine vc_e (ests st 0 [_,_] sizeOf29 ?_)
 intro w st;dsimp only [setNth,wr] at st
 refine et (vk3 1 2 4 (sr ?_))
 refine ym ?_
 refine vy (y_nei rfl rfl) ?_
 refine et (vk4 1 2 4 16 ?_)
 refine vif ?_ ?_
 ·intro hc16
  try simp only [dn] at hc16
  have hck:ckP p=false:=by
   by_cases h:ckP p=true
   ·simp [h] at hc16
   ·simpa using h
  rw [hck]
  refine sr ?_
  refine vy (ybd (.agg #[_,_,_]) []) ?_
  refine ym ?_
  refine vc_e (ests st 1 [_,_,_] sizeOf36 ?_)
  intro w st;dsimp only [setNth,wr] at st
  refine ya ?_
  refine et (vk2 2 3 (vc_ret (vq_then_ret ?_)))
  refine vq_ret2 st (.inl rfl) results7 (by exact .cell 1 rfl rfl isAgg36 sizeOf36) (.tmp rfl) ?_
  refine⟨_,rfl,?_⟩
  exact⟨st.chg,.inl ⟨hck,rfl⟩⟩
 intro hc16
 try simp only [dn] at hc16
 have hck:ckP p=true:=by
  by_cases h:ckP p=true
  ·exact h
  ·simp [h] at hc16
 refine kt (vk2 1 2 ?_)
 refine vc_cut (w0:=w0) (M:=[]) (fun (x:Nat×Option Addr×Nat×Option Addr×Nat)=>[(1,.pointer (some ⟨b1,0,none⟩)),(2,.pointer (some ⟨b2,0,none⟩)),(6,.pointer (some ⟨x.1,0,none⟩))]) (fun x=>[.blk x.1 (.cells [.slice x.2.1 p.shared.length x.2.2.1,.slice x.2.2.2.1 p.locks.length x.2.2.2.2,.slice none 0 0].toArray 36 (0,0)),.blk b2 (.cells [.slice none 0 0,.slice none 0 0,.slice none 0 0].toArray 36 (0,0)),.blk b1 (.cells [.slice os p.shared.length cs,.slice ol p.locks.length cl,.slice ot p.threads.length ct].toArray 26 (0,0)),.own (.slice x.2.1 p.shared.length x.2.2.1) 134 3 p.shared.length (p.shared.flatMap dcL),.own (.slice x.2.2.2.1 p.locks.length x.2.2.2.2) 134 3 p.locks.length (p.locks.flatMap dcL)]) (fun x w=>w0.heap.size≤x.1) ?_ ?_
 ·replace st:=(st.ownNil 134 3).ownNil 134 3
  refine ddr Tryz.mixed (.take 0 (.take 1 (.take 3 (.take 4 (.two 2 7 (.two 5 7 (.take 6 (.one 7 (.one 8 .done))) (.one 5 (.take 6 (.one 8 .done)))) (.one 2 (.one 5 (.take 6 (.one 8 .done))))))))) [.blk b1 (.cells [.slice os p.shared.length cs,.slice ol p.locks.length cl,.slice ot p.threads.length ct].toArray 26 (0,0))] st ?_
  clear st;intro w st hS
  refine df0 hS underlying26 sizeOf23 ?_
  refine dld hS 0 isAgg23 ?_
  refine dfz hS 1 underlying26 sizeOf23 ?_
  refine dld hS 0 isAgg23 ?_
  refine vd_two rfl rfl ?_ ?_
  focus
   refine(e_appr (bytes:=32) (l:=p.shared.flatMap dcL) (len':=p.shared.length) (ys:=p.shared.flatMap dcL) st 0 rfl rfl rfl rfl rfl (DcRow.rd (hSh.kept st.sm)) underlying23 Tryz.info134 rfl rfl rfl rfl rfl (dcs_len _) (dcs_one _) (by unfold maxLen;omega) (by omega) (by omega) (by simp) ?_)
   intro o21 c21 w st;dsimp only [setNth] at st
   refine vd_next st.dr ?_;intro hS
   refine vd_two rfl rfl ?_ ?_
   refine(e_appr (bytes:=32) (l:=p.locks.flatMap dcL) (len':=p.locks.length) (ys:=p.locks.flatMap dcL) st 1 rfl rfl rfl rfl rfl (DcRow.rd (hL.kept st.sm)) underlying23 Tryz.info134 rfl rfl rfl rfl rfl (dcs_len _) (dcs_one _) (by unfold maxLen;omega) (by omega) (by omega) (by simp) ?_)
   intro o24 c24 w st;dsimp only [setNth] at st
   refine vd_next st.dr ?_;intro hS
   refine vd_take rfl rfl rfl hS (fun w st=>ybd (.agg #[_,_,_]) [(0,_),(1,_)]) ?_
   refine vd_do rfl (e_al (l:=[_,_,_]) st rfl rfl zeroValue36 rfl ?_)
   intro b6 w hb6 st
   refine vd_next st.dr ?_;intro hS
   rotate_left
   refine(e_al (l:=[_,_,_]) st rfl rfl zeroValue36 rfl ?_)
   intro b6 w hb6 st
   refine vd_next st.dr ?_;intro hS
   refine vd_do rfl (e_appr (bytes:=32) (l:=p.locks.flatMap dcL) (len':=p.locks.length) (ys:=p.locks.flatMap dcL) st 2 rfl rfl rfl rfl rfl (DcRow.rd (hL.kept st.sm)) underlying23 Tryz.info134 rfl rfl rfl rfl rfl (dcs_len _) (dcs_one _) (by unfold maxLen;omega) (by omega) (by omega) (by simp) ?_)
   intro o24 c24 w st;dsimp only [setNth] at st
   refine vd_next st.dr ?_;intro hS
   refine vd_take rfl rfl rfl hS (fun w st=>ybd (.agg #[_,_,_]) [(0,_),(1,_)]) ?_
  rotate_left 2
  refine(e_al (l:=[_,_,_]) st rfl rfl zeroValue36 rfl ?_)
  intro b6 w hb6 st
  refine vd_next st.dr ?_;intro hS
  refine vd_do rfl (e_appr (bytes:=32) (l:=p.shared.flatMap dcL) (len':=p.shared.length) (ys:=p.shared.flatMap dcL) st 1 rfl rfl rfl rfl rfl (DcRow.rd (hSh.kept st.sm)) underlying23 Tryz.info134 rfl rfl rfl rfl rfl (dcs_len _) (dcs_one _) (by unfold maxLen;omega) (by omega) (by omega) (by simp) ?_)
  intro o21 c21 w st;dsimp only [setNth] at st
  refine vd_next st.dr ?_;intro hS
  refine vd_do rfl (e_appr (bytes:=32) (l:=p.locks.flatMap dcL) (len':=p.locks.length) (ys:=p.locks.flatMap dcL) st 2 rfl rfl rfl rfl rfl (DcRow.rd (hL.kept st.sm)) underlying23 Tryz.info134 rfl rfl rfl rfl rfl (dcs_len _) (dcs_one _) (by unfold maxLen;omega) (by omega) (by omega) (by simp) ?_)
  intro o24 c24 w st;dsimp only [setNth] at st
  refine vd_next st.dr ?_;intro hS
  refine vd_take rfl rfl rfl hS (fun w st=>ybd (.agg #[_,_,_]) [(0,_),(1,_)]) ?_
  all_goals
   refine vd_do rfl (ests st 0 [_,_,_] sizeOf36 ?_)
   intro w st;dsimp only [setNth,wr] at st
   refine vd_next st.dr ?_;intro hS
   refine vd_end ?_
   refine vq_meet (b6,o21,c21,o24,c24) ⟨rfl,rfl,rfl,trivial⟩ (st.pick [0,4,5,1,2] rfl (by decide)) ?_
   ·exact hb6
 clear st
 rintro ⟨b6,o21,c21,o24,c24⟩ w hb6 st
 dsimp only at hb6 st ⊢
 refine vc_seq (sr ?_)
 refine yfz 2 underlying26 sizeOf24 ?_
 refine yl st 2 isAgg24 ?_
 refine vy (y_lensl rfl underlying24) ?_
 refine ym ?_
 refine et (vk6 1 2 6 27 28 29 (vc_block ?_))
 refine vc_loop (w0:=w0) (M:=[]) (fun (y:Nat×Option Addr×Nat×List Dg)=>[(1,.pointer (some ⟨b1,0,none⟩)),(2,.pointer (some ⟨b2,0,none⟩)),(6,.pointer (some ⟨b6,0,none⟩)),(27,.slice ot p.threads.length ct),(28,.int .i64 (p.threads.length:Int)),(29,.int .i64 (y.1:Int))]) (fun y=>[.own (.slice y.2.1 y.2.2.2.length y.2.2.1) 43 4 y.2.2.2.length (y.2.2.2.flatMap gcell),gdR w0.heap.size y.2.2.2,.blk b6 (.cells [.slice o21 p.shared.length c21,.slice o24 p.locks.length c24,.slice y.2.1 y.2.2.2.length y.2.2.1].toArray 36 (0,0)),.blk b2 (.cells [.slice none 0 0,.slice none 0 0,.slice none 0 0].toArray 36 (0,0)),.blk b1 (.cells [.slice os p.shared.length cs,.slice ol p.locks.length cl,.slice ot p.threads.length ct].toArray 26 (0,0)),.own (.slice o21 p.shared.length c21) 134 3 p.shared.length (p.shared.flatMap dcL),.own (.slice o24 p.locks.length c24) 134 3 p.locks.length (p.locks.flatMap dcL)]) (fun y w'=>y.1≤p.threads.length∧GrsOf p (p.threads.take y.1) y.2.2.2) (fun y=>p.threads.length - y.1) (0,none,0,[]) ⟨rfl,rfl,rfl,rfl,rfl,rfl,trivial⟩ ((st.add (r:=gdR w0.heap.size []) (gdR_holds (by simp) (by simp [dgB])) (by simp [gdR,Res.at?,dgB])).ownNil 43 4) ⟨by simp,by simp [GrsOf]⟩ ?_
 clear st
 rintro ⟨j,og,cg,D⟩ w ⟨hj,hD⟩ st
 dsimp only at hj hD st ⊢
 refine sr ?_
 refine vy (y_lss rfl rfl) ?_
 refine et (vk7 1 2 6 27 28 29 30 (vc_seq ?_))
 refine vif ?_ ?_
 ·intro hc30
  try simp only [dn] at hc30
  have stK:=st
  have hj2:j<p.threads.length:=by omega
  obtain⟨x,hx⟩:∃ x,p.threads[j]?=some x:=⟨_,List.getElem?_eq_getElem hj2⟩
  obtain⟨gb,go,rfl,hgS,hgl,hg⟩:=ThRow.at hT (by omega)
  obtain⟨tl,tb,tc,td,hCx,hBx,hc⟩:=hg j x hx
  have hdx:=List.all_eq_true.1 hp3 x (List.mem_of_getElem? hx)
  have hox:=hok.2.2.2 j x hx
  have hszx:szSs x.body≤szP p∧x.locals.length≤szP p:=szP_th hx
  have hDl:D.length=j:=by rw [hD.1,List.length_take];omega
  have st:=stK
  refine kt (vk6 1 2 6 27 28 29 (vc_seq (vc_block (sr ?_))))
  refine ym ?_
  refine vy (y_ia (k:=j) rfl rfl underlying24 sizeOf50 rfl (by omega)) ?_
  refine vy (y_ldca (thL x tl tb tc td) rfl isAgg50 sizeOf50 rfl (fun i v hi=>st.chg.cell (hc i v hi) (by simp))) ?_
  refine vc_e (e_al (l:=[_,_,_,_]) st rfl rfl zeroValue50 rfl ?_)
  intro b8 w hb8 st
  refine ya ?_
  refine vc_e (ests st 0 [_,_,_,_] sizeOf50 ?_)
  intro w st;dsimp only [setNth,wr] at st
  refine et (vk8 1 2 6 7 8 27 28 29 (sr ?_))
  refine yla st 5 [_,_,_] isAgg26 sizeOf26 ?_
  refine ym ?_
  refine vy (y_fa0 rfl underlying50 rfl rfl sizeOf9 rfl) ?_
  refine yl st 0 isAgg9 ?_
  refine yfz 1 underlying50 sizeOf23 ?_
  refine yl st 0 isAgg23 ?_
  refine vy (y_lensl rfl underlying23) ?_
  refine yfz 1 underlying50 sizeOf23 ?_
  refine yl st 0 isAgg23 ?_
  refine vy (y_lensl rfl underlying23) ?_
  refine vy (ybd (.agg #[_,_,_,_]) [(0,_),(1,_),(2,_)]) ?_
  refine vy (ybd (.agg #[_,_,_,_,_,_,_,_,_,_]) [(0,_),(1,_),(2,_)]) ?_
  refine vc_e (e_bx (l:=[_,_,_,_,_,_,_,_,_,_]) st rfl rfl rfl rfl ?_)
  intro b46 w hb46 st
  refine ya ?_
  refine et (vk8 1 2 6 8 9 27 28 29 (sr ?_))
  replace st:St w0 [] (loX (⟨p,x,j,os,ol,some ⟨gb,go,none⟩,cs,cl,ct⟩:Cx) b46 x.locals.length (.slice none 0 0) (.slice none 0 0) false::_) w:=st
  replace st:=st.loNew hb46
  refine ym ?_
  refine yfz 2 underlying50 sizeOf48 ?_
  refine yl st 1 isAgg48 ?_
  refine vc_e (e_call [_,_] rfl rfl call20 rfl (lblock_any (n0:=n0) b46 (⟨p,x,j,os,ol,some ⟨gb,go,none⟩,cs,cl,ct⟩:Cx) x.body 1 (thOk_body hdx) hox.2.1 (⟨[],x.locals.length,[],false⟩:LS) (by show x.locals.length+_≤_;omega) (by show max 0 1+_≤_;omega) (.slice none 0 0) (.slice none 0 0) [] tb td _ (hBx.kept st.sm) (fun k hk=>by simp [loS,Value.ownBlock,clB] at hk;omega) (st.regGet (i:=0) rfl).1 ⟨hSh.kept st.sm,hL.kept st.sm,hT.kept st.sm,hx,ls,ll,lt,hox.1.1⟩) ?_)
  rintro _ w ⟨gv1,qv1,cl1,pp⟩
  replace st:=st.regP (i:=0) rfl pp
  dsimp only [setNth] at st
  obtain⟨Lb,hLb⟩:∃ Lb,blL x.locals p.shared p.locks x.body ⟨[],x.locals.length,[],false⟩=Lb:=⟨_,rfl⟩
  have hfew:=bl_few (lo:=x.locals) (sh:=p.shared) (lk:=p.locks) x.body ⟨[],x.locals.length,[],false⟩
  rw [hLb] at hfew
  have hf1:=hfew.1
  have hf2:=hfew.2
  dsimp only [List.length_nil] at hf1 hf2
  have hgrt:=grT_eq p x Lb hLb
  try dsimp only at st
  rw [hLb] at st
  refine et (vk7 1 2 6 9 27 28 29 (vc_seq (sr ?_)))
  refine ym ?_
  refine ynk ?_
  refine yfz 9 underlying76 sizeOf4 ?_
  refine vy (y_ldc rfl isAgg4 (cell_blk ((st.regGet (i:=0) rfl).1.cell) rfl)) ?_
  refine vy (y_not rfl) ?_
  refine et (vk8 1 2 6 9 27 28 29 55 ?_)
  refine vif ?_ ?_
  ·intro hc55
   try simp only [dn] at hc55
   have hov:Lb.ov=false:=by simpa using hc55
   refine vc_region ?_
   refine ym ?_
   refine vy (ybd (.agg #[_,_,_,_,_,_,_,_,_,_,_,_,_]) [(0,_)]) ?_
   refine vc_e (e_call [_,_] rfl rfl call21 rfl (lput_any (⟨p,x,j,os,ol,some ⟨gb,go,none⟩,cs,cl,ct⟩:Cx) b46 Lb gv1 qv1 cl1 (mkG 9 0 0 0 (.num 0) (.num 0)) _ (st.regGet (i:=0) rfl).1 (by omega)) ?_)
   rintro _ w ⟨rfl,gv2,qv2,cl2,pp⟩
   replace st:=st.regP (i:=0) rfl pp
   dsimp only [setNth] at st
   refine et (vk7 1 2 6 9 27 28 29 (vc_seq (sr ?_)))
   refine ym ?_
   refine ynk ?_
   refine yfz 9 underlying76 sizeOf4 ?_
   refine vy (y_ldc rfl isAgg4 (cell_blk ((st.regGet (i:=0) rfl).1.cell) rfl)) ?_
   refine et (vk8 1 2 6 9 27 28 29 62 ?_)
   refine vif ?_ ?_
   ·intro hc62
    try simp only [dn] at hc62
    refine sr ?_
    refine vy (ybd (.agg #[_,_,_]) []) ?_
    refine vc_e (ests st 5 [_,_,_] sizeOf36 ?_)
    intro w st;dsimp only [setNth,wr] at st
    refine ya ?_
    refine et (vk2 2 3 (vc_ret (vq_then_ret (vq_block_ret (vq_then_ret (vq_then_ret (vq_block_ret (vq_then_ret ?_))))))))
    refine vq_ret2 st (.inl rfl) results7 (by exact .cell 5 rfl rfl isAgg36 sizeOf36) (.tmp rfl) ?_
    refine⟨_,rfl,?_⟩
    exact⟨st.chg,.inr (.inl ⟨hck,⟨x,List.mem_of_getElem? hx,by rw [hgrt,if_neg (by rw [hov];simp),if_pos (by assumption)]⟩,rfl⟩)⟩
   intro hc62
   try simp only [dn] at hc62
   have hov2:(putL (mkG 9 0 0 0 (.num 0) (.num 0)) Lb).ov=false:=by simpa using hc62
   obtain⟨hpos,hset⟩:=put_last hov2 rfl
   have hgr:grT p x=some ((putL (mkG 9 0 0 0 (.num 0) (.num 0)) Lb).N,(putL (mkG 9 0 0 0 (.num 0) (.num 0)) Lb).s):=by rw [hgrt,if_neg (by rw [hov];simp),if_neg (by rw [hov2];simp)]
   have hLf:=(st.regGet (i:=0) rfl).1
   have hlef:=hLf.le
   obtain⟨on,zn,rfl⟩:=slice_formZ hLf.row
   obtain⟨nb,nc,hne,-⟩:=own_form hLf.row hpos
   simp only [Value.slice.injEq,true_and] at hne
   obtain⟨rfl,rfl⟩:=hne
   replace st:=st.loOpen
   obtain⟨NN,hNN⟩:∃ NN,NN=(putL (mkG 9 0 0 0 (.num 0) (.num 0)) Lb).N:=⟨_,rfl⟩
   obtain⟨ss,hss⟩:∃ ss,ss=(putL (mkG 9 0 0 0 (.num 0) (.num 0)) Lb).s:=⟨_,rfl⟩
   rw [← hNN,← hss] at hgr
   rw [← hNN] at hpos hset hlef
   rw [← hNN,← hss] at st
   have hset2:=gnL_set false 0 NN 0 (NN.length - 1) (by omega)
   have hset3:NN.modify (NN.length - 1) (setT false 0)=NN:=hset
   rw [hset3] at hset2
   simp only [Bool.false_eq_true,if_false] at hset2
   have hgl2:=gnL_len NN 0
   have hfl:(D++[(⟨x.nm,x.locals.length,NN,ss,some ⟨nb,0,none⟩,zn⟩:Dg)]).flatMap gcell=D.flatMap gcell++gcell (⟨x.nm,x.locals.length,NN,ss,some ⟨nb,0,none⟩,zn⟩:Dg):=by simp
   have hll:(D++[(⟨x.nm,x.locals.length,NN,ss,some ⟨nb,0,none⟩,zn⟩:Dg)]).length=D.length+1:=by simp
   refine kt (vk7 1 2 6 9 27 28 29 (vc_seq ?_))
   refine vk_draw Tryz.mixed [(0,true),(1,true),(2,true),(3,true),(5,true),(6,true),(7,true),(8,true),(4,true),(9,true),(10,true),(11,true),(12,true),(13,true),(14,false)] 14 (fun w=>St _ _ _ w) st (by kernel_rfl) (by repeat (first|exact okQ_noPan|exact okQ_body|exact okQ_bodyS|refine okQ_then ?_|refine okQ_block ?_)) rfl (by kernel_rfl) rfl ?_
   intro w cd;replace st:=st.call0 cd;clear cd
   have hS:=st
   refine km hS ?_
   refine vk_takeU rfl rfl rfl rfl (fun _=>hS) (fun w=>y_nck rfl) ?_
   refine vk_takeU rfl rfl rfl rfl (fun _=>hS) (fun w=>(by exact y_faz (k:=4) rfl underlying76 rfl rfl sizeOf43 rfl)) ?_
   refine vk_takeU rfl rfl rfl rfl (fun _=>hS) (fun w=>(by exact y_fa (k:=3) rfl underlying43 rfl rfl sizeOf41 rfl)) ?_
   refine km hS ?_
   refine vk_takeU rfl rfl rfl rfl (fun _=>hS) (fun w=>y_nck rfl) ?_
   refine vk_takeU rfl rfl rfl rfl (fun _=>hS) (fun w=>(by exact y_faz (k:=4) rfl underlying76 rfl rfl sizeOf43 rfl)) ?_
   refine vk_takeU rfl rfl rfl rfl (fun _=>hS) (fun w=>(by exact y_fa (k:=3) rfl underlying43 rfl rfl sizeOf41 rfl)) ?_
   iterate 2 refine vk_take rfl rfl rfl rfl hS (fun w st=>y_ld st 0 rfl isAgg41 rfl rfl) ?_
   refine vk_takeU rfl rfl rfl rfl (fun _=>hS) (fun w=>y_lensl rfl underlying41) ?_
   refine vk_takeU rfl rfl rfl rfl (fun _=>hS) (fun w=>y_sub rfl rfl (by omega:_=((NN.length - 1:Nat):Int)) (by omega) (by omega)) ?_
   refine vk_takeU rfl rfl rfl rfl (fun _=>hS) (fun w=>(by exact y_ia0 (k:=(NN.length - 1)) rfl rfl underlying41 sizeOf83 rfl (by omega))) ?_
   refine vk_takeU rfl rfl rfl rfl (fun _=>hS) (fun w=>(by exact y_fa (k:=10) rfl underlying83 rfl rfl sizeOf3 rfl)) ?_
   refine vk_do rfl rfl (e_stZ (vs:=[_]) st 1 rfl rfl rfl rfl rfl sizeOf3 rfl (by simp only [List.length_cons,List.length_nil];omega) ?_)
   intro w st;dsimp only [setNth] at st
   replace st:=st.ndTo (i:=1) (N:=NN) rfl rfl hset2.symm
   dsimp only [setNth] at st
   refine vk_late ?_
   refine vk_end ?_
   refine vq_then (vk7 1 2 6 9 27 28 29 ?_)
   refine kdr Tryz.mixed [Yt 0,Yt 2,Yt 3,Yt 4,Yt 1,Yt 5,Nt 6,Nt 7,Yt 8,Nt 9] 9 [loX (⟨p,x,j,os,ol,some ⟨gb,go,none⟩,cs,cl,ct⟩:Cx) b46 ss (.slice (some ⟨nb,0,none⟩) NN.length zn) qv2 (putL (mkG 9 0 0 0 (.num 0) (.num 0)) Lb).ov,.blk b6 (.cells [.slice o21 p.shared.length c21,.slice o24 p.locks.length c24,.slice og D.length cg].toArray 36 (0,0))] st ?_
   clear st;intro w st hS
   refine vk_takeU rfl rfl rfl rfl (fun _=>hS) (fun w=>(by exact y_faz (k:=2) rfl underlying36 rfl rfl sizeOf34 rfl)) ?_
   refine km hS ?_
   refine vk_takeU rfl rfl rfl rfl (fun _=>hS) (fun w=>y_nck rfl) ?_
   refine vk_takeU rfl rfl rfl rfl (fun _=>hS) (fun w=>(by exact y_faz (k:=4) rfl underlying76 rfl rfl sizeOf43 rfl)) ?_
   refine vk_take rfl rfl rfl rfl hS (fun w st=>y_ld st 1 rfl isAgg34 rfl rfl) ?_
   refine vk_take rfl rfl rfl rfl hS (fun w st=>y_lda (vs:=[_,_,_,_]) st 0 rfl isAgg43 sizeOf43 rfl rfl) ?_
   refine vk_do rfl rfl (e_bs1 (l:=[_,_,_,_]) st rfl rfl rfl rfl underlying34 sizeOf43 rfl rfl rfl zeroValue43 ?_)
   intro b84 w hb84 st
   refine vk_next st.dr ?_;intro hS
   refine vk_do rfl rfl (e_app (bytes:=56) st 6 0 rfl rfl rfl rfl rfl rfl underlying34 Tryz.info43 rfl rfl rfl rfl rfl (by simp) rfl rfl (by unfold maxLen;omega) (by omega) ?_)
   intro oa85 cap85 w st;dsimp only [setNth] at st
   refine vk_next st.dr ?_;intro hS
   refine vk_takeU rfl rfl rfl rfl (fun _=>hS) (fun w=>(by exact y_faz (k:=2) rfl underlying36 rfl rfl sizeOf34 rfl)) ?_
   refine vk_do rfl rfl (est st 8 sizeOf34 ?_)
   intro w st;dsimp only [setNth,wr] at st
   refine vk_late ?_
   refine vk_end ?_
   refine vq_block (vq_then (vk6 1 2 6 27 28 29 (vc_region ?_)))
   refine vy (y_add rfl rfl (by omega:_=((j+1:Nat):Int)) (by omega) (by omega)) ?_
   refine ym ?_
   refine vc_end ?_
   refine vq_again (j+1,oa85,cap85,D++[(⟨x.nm,x.locals.length,NN,ss,some ⟨nb,0,none⟩,zn⟩:Dg)])  ⟨rfl,rfl,rfl,rfl,rfl,rfl,trivial⟩ (by have h1:=((st.pick [7,2,6,8,9,10,11,12] rfl (by decide)).gjoin (d:=(⟨x.nm,x.locals.length,NN,ss,some ⟨nb,0,none⟩,zn⟩:Dg))).pick [1,0,2,3,4,5,6] rfl (by decide);dsimp only;rw [hfl,hll];exact h1) ?_ ?_
   ·exact⟨by dsimp only;omega,hD.snoc hx rfl rfl hgr⟩
   dsimp only;omega
  intro hc55
  try simp only [dn] at hc55
  have hov:Lb.ov=true:=by simpa using hc55
  refine kt (vk7 1 2 6 9 27 28 29 (vc_seq (sr ?_)))
  refine ym ?_
  refine ynk ?_
  refine yfz 9 underlying76 sizeOf4 ?_
  refine vy (y_ldc rfl isAgg4 (cell_blk ((st.regGet (i:=0) rfl).1.cell) rfl)) ?_
  refine et (vk8 1 2 6 9 27 28 29 62 ?_)
  refine vif ?_ ?_
  ·intro hc62
   try simp only [dn] at hc62
   refine sr ?_
   refine vy (ybd (.agg #[_,_,_]) []) ?_
   refine vc_e (ests st 5 [_,_,_] sizeOf36 ?_)
   intro w st;dsimp only [setNth,wr] at st
   refine ya ?_
   refine et (vk2 2 3 (vc_ret (vq_then_ret (vq_block_ret (vq_then_ret (vq_then_ret (vq_block_ret (vq_then_ret ?_))))))))
   refine vq_ret2 st (.inl rfl) results7 (by exact .cell 5 rfl rfl isAgg36 sizeOf36) (.tmp rfl) ?_
   refine⟨_,rfl,?_⟩
   exact⟨st.chg,.inr (.inl ⟨hck,⟨x,List.mem_of_getElem? hx,by rw [hgrt,if_pos hov]⟩,rfl⟩)⟩
  intro hc62
  exfalso;rw [hov] at hc62;cases hc62
 intro hc30
 try simp only [dn] at hc30
 have hj2:j=p.threads.length:=by omega
 subst hj2
 rw [List.take_length] at hD
 refine vc_exit (vq_then_exit (vq_then_exit (vq_block_exit (vq_then (vk2 2 6 (sr ?_))))))
 refine yla st 2 [_,_,_] isAgg36 sizeOf36 ?_
 refine vc_e (ests st 3 [_,_,_] sizeOf36 ?_)
 intro w st;dsimp only [setNth,wr] at st
 refine ya ?_
 refine et (vk2 2 3 (vc_ret ?_))
 refine vq_ret2 st (.inl rfl) results7 (by exact .cell 3 rfl rfl isAgg36 sizeOf36) (.tmp rfl) ?_
 refine⟨_,rfl,?_⟩
 refine⟨st.chg,.inr (.inr ⟨hck,D,_,rfl,hD,o21,c21,o24,c24,og,cg,rfl,dcRow_own st (i:=5) rfl,dcRow_own st (i:=6) rfl,?_,?_⟩)⟩
 ·refine row_eq (rowC_own (st.ownNw (i:=0) rfl).1 (fun b hb=>(st.ownNw (i:=0) rfl).2.2 b hb)) fun j hj=>?_
  have hjd:=List.getElem?_eq_getElem hj
  rw [grs_chunk hjd,List.getD_eq_getElem?_getD,hjd];rfl
 intro d hd
 have h1:=(st.res (i:=1) rfl).1
 refine row_eq (rowC_own (h1.1 d hd) (fun b hb=>h1.2 b (List.mem_flatMap.2 ⟨d,hd,hb⟩))) fun j hj=>?_
 have hjd:=List.getElem?_eq_getElem hj
 rw [gnL_at 0 hjd,Nat.zero_add,List.getD_eq_getElem?_getD,hjd];rfl
end Go.Proofs.YtkhpdpenlnhbiaaGreatDoor
