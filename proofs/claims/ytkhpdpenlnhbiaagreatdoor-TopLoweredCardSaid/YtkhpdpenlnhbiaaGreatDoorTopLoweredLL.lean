/- A part of the proof: contracts of functions and plain laws; each theorem says its own conditions. -/
import Derived.Test.YtkhpdpenlnhbiaaGreatDoorTopLoweredK7
import Derived.Test.YtkhpdpenlnhbiaaGreatDoorTopLoweredLK
namespace Go.Proofs.YtkhpdpenlnhbiaaGreatDoor
open Go.RowKit Sx LexS ParS _root_.Go.Proofs.Tryz
set_option linter.unusedVariables false
set_option linter.unusedSimpArgs false
theorem Tryz.info44:Tryz.prog.info? 44=some Tryz.t44:=by kernel_rfl
theorem own_pre {w:World} {base E sz n c m:Nat} {oa:Option Addr} {xs:List Value} (h:w.ownsRow base E sz (.slice oa n c) n xs) (hm:m≤n) (hpn:0<n):w.ownsRow base E sz (.slice oa m c) m (xs.take (m*sz)):=by
 obtain⟨h1,h2⟩:=h
 have hms:m*sz≤n*sz:=Nat.mul_le_mul_right _ hm
 refine⟨by rw [List.length_take,h1];omega,?_⟩
 rcases h2 with ⟨e,h3⟩|⟨g,cap,cur,e,hb,hh,hl,hc,hs,ht⟩
 ·omega
 ·simp only [Value.slice.injEq,true_and] at e
  obtain⟨rfl,rfl⟩:=e
  refine .inr ⟨g,c,cur,rfl,hb,hh,Nat.le_trans hm hl,hc,hs,?_⟩
  rw [← ht,List.take_take,Nat.min_eq_left hms]
def Rds (w:World) (BL:List Nat) (v:Value) (l:List Int):Prop:=(∃ oa c,v=.slice oa l.length c)∧(∀ b∈v.ownBlock.toList,b∈BL)∧w.ownsRow 0 3 1 v l.length (iL l)
theorem Rds.mono {w:World} {BL BL':List Nat} {v:Value} {l:List Int} (h:Rds w BL v l) (hb:∀ b∈BL,b∈BL'):Rds w BL' v l:=⟨h.1,fun b hb'=>hb b (h.2.1 b hb'),h.2.2⟩
theorem Rds.kept {w w':World} {BL:List Nat} {v:Value} {l:List Int} (h:Rds w BL v l) (hk:∀ b∈BL,w'.heap[b]?=w.heap[b]?):Rds w' BL v l:=by
 obtain⟨⟨oa,c,rfl⟩,h2,h3⟩:=h
 exact⟨⟨oa,c,rfl⟩,h2,owns_kept h3 fun b hb=>hk b (h2 b (by rw [obk_own];exact hb))⟩
def LkP (lab:List (List Int)) (BL:List Nat) (T:List Nat) (LV:List Value) (X:List (Value×List Int)) (w:World):Prop:=(∀ i∈T,∃ v l,LV[i]?=some v∧lab[i]?=some l∧Rds w BL v l)∧∀ q∈X,Rds w BL q.1 q.2
def lkR (lab:List (List Int)) (BL:List Nat) (T:List Nat) (LV:List Value) (X:List (Value×List Int)):Res:=.tree BL (LkP lab BL T LV X)
theorem lkR_holds {lab:List (List Int)} {BL T:List Nat} {LV:List Value} {X:List (Value×List Int)} {w:World} {base:Nat} (h:LkP lab BL T LV X w) (hlt:∀ k∈BL,k<w.heap.size):(lkR lab BL T LV X).holds base w:=
 ⟨h,hlt,fun a b _ hk hp=>⟨fun i hi=>by
   obtain⟨v,l,h1,h2,h3⟩:=hp.1 i hi
   exact⟨v,l,h1,h2,h3.kept hk⟩,fun q hq=>(hp.2 q hq).kept hk⟩⟩
theorem _root_.Sx.St.lkTo {w0 w:World} {M:List Nat} {hs:List Res} {lab:List (List Int)} {BL T T':List Nat} {LV LV':List Value} {X X':List (Value×List Int)} (st:St w0 M (lkR lab BL T LV X::hs) w) (h:LkP lab BL T LV X w→LkP lab BL T' LV' X' w):St w0 M (lkR lab BL T' LV' X'::hs) w:=
 st.turn0 (fun k hk=>hk) (lkR_holds (h (st.res (i:=0) rfl).1) (st.res (i:=0) rfl).2.1)
theorem _root_.Sx.St.lkAdd {w0 w:World} {M:List Nat} {hs:List Res} {lab:List (List Int)} {BL T:List Nat} {LV:List Value} {X:List (Value×List Int)} {oa:Option Addr} {n c:Nat} {l:List Int} (st:St w0 M (lkR lab BL T LV X::.own (.slice oa n c) 3 1 n (iL l)::hs) w) (hn:n=l.length):St w0 M (lkR lab (obk oa++BL) T LV ((.slice oa n c,l)::X)::hs) w:=by
 subst hn
 obtain⟨h1,h2,-⟩:=st.res (i:=0) rfl
 obtain⟨h3,h4⟩:=st.ownNw (i:=1) rfl
 have hm:∀ b∈BL,b∈obk oa++BL:=fun b hb=>List.mem_append.2 (.inr hb)
 refine st.joinN 2 (fun k hk=>?_) (lkR_holds ⟨fun i hi=>?_,fun q hq=>?_⟩ fun k hk=>?_)
 ·have hk:k∈obk oa++BL:=hk
  rcases List.mem_append.1 hk with hk|hk
  ·exact⟨_,.tail _ (.head _),by show k∈(Value.slice oa l.length c).ownBlock.toList;rw [obk_own];exact hk⟩
  ·exact⟨_,.head _,hk⟩
 ·obtain⟨v,l',g1,g2,g3⟩:=h1.1 i hi
  exact⟨v,l',g1,g2,g3.mono hm⟩
 ·rcases List.mem_cons.1 hq with rfl|hq
  ·exact⟨⟨oa,c,rfl⟩,fun b hb=>List.mem_append.2 (.inl (by rw [obk_own] at hb;exact hb)),h3⟩
  ·exact(h1.2 q hq).mono hm
 rcases List.mem_append.1 hk with hk|hk
 ·exact(owns_lt h3 k hk).2
 ·exact h2 k hk
abbrev fndI (T:List Nat):List (Int×Value):=T.map fun (i:Nat)=>((i:Int),Value.bool true)
theorem fnd_get (T:List Nat) (k:Nat):getI (fndI T) (k:Int)=if k∈T then some (.bool true) else none:=by
 induction T with
 | nil=>rfl
 | cons x r ih=>
  show getI (((x:Int),Value.bool true)::fndI r) (k:Int)=_
  rw [getI,ih]
  by_cases h:k=x
  ·simp [h]
  ·have:¬ (k:Int)=(x:Int):=by omega
   simp [h,this]
theorem nodup_len {T:List Nat} {n:Nat} (h:T.Nodup) (hb:∀ i∈T,i<n):T.length≤n:=by
 have:T ⊆ List.range n:=fun i hi=>List.mem_range.2 (hb i hi)
 have:=h.length_le_of_subset this
 simpa using this
theorem flG_lab {lab:List (List Int)} {i to:Nat} {g:Gn} {l:List Int} (h:NodeOk lab [] i g l) (ht:to∈flG g):lab[to]?=some (aft g l):=by
 obtain⟨-,h2,h3,h4,h5⟩:=h
 unfold flG at ht
 split at ht
 ·simp at ht
 ·rename_i h9
  have h4:=(h4 h9).resolve_left (by simp)
  split at ht
  ·rename_i h8
   have h5:=(h5 h8.1).resolve_left (by simp)
   simp only [List.mem_cons,List.not_mem_nil,or_false] at ht
   rcases ht with rfl|rfl
   ·exact h4
   ·exact h5
  ·simp only [List.mem_singleton] at ht
   subst ht;exact h4
theorem flG_len (g:Gn):(flG g).length≤2:=by
 unfold flG
 split
 ·simp
 ·split <;> simp
theorem aft_len (g:Gn) (l:List Int):(aft g l).length≤l.length+1:=by
 unfold aft
 split
 ·simp
 ·split
  ·rw [List.length_dropLast];omega
  ·omega
def Shal (lab:List (List Int)) (T:List Nat):Prop:=∀ (p i:Nat) l,T[p]?=some i→lab[i]?=some l→l.length≤p
theorem Shal.first {lab:List (List Int)} (h:lab[0]?=some []):Shal lab [0]:=by
 intro p i l hp hl
 cases p with
 | zero=>
  simp only [List.getElem?_cons_zero,Option.some.injEq] at hp
  subst hp
  rw [h] at hl
  cases hl
  exact Nat.le_refl _
 | succ p=>simp at hp
theorem Shal.snoc {lab:List (List Int)} {T:List Nat} {i:Nat} {m:List Int} (h:Shal lab T) (hi:lab[i]?=some m) (hm:m.length≤T.length):Shal lab (T++[i]):=by
 intro p q l hp hl
 by_cases hlt:p<T.length
 ·rw [List.getElem?_append_left hlt] at hp
  exact h p q l hp hl
 ·have hp2:p=T.length:=by
   have:=(List.getElem?_eq_some_iff.1 hp).1
   simp only [List.length_append,List.length_singleton] at this
   omega
  subst hp2
  rw [List.getElem?_append_right (Nat.le_refl _),Nat.sub_self] at hp
  simp only [List.getElem?_cons_zero,Option.some.injEq] at hp
  subst hp
  rw [hi] at hl
  cases hl
  exact hm
theorem owns_now {w:World} {BL:List Nat} {LV:List Value} {lab:List (List Int)} {i:Nat} {v:Value} {l:List Int} (h:∃ v l,LV[i]?=some v∧lab[i]?=some l∧Rds w BL v l) (hv:LV[i]?=some v) (hl:lab[i]?=some l):w.ownsRow 0 3 1 v l.length (iL l):=by
 obtain⟨v',l',h1,h2,h3⟩:=h
 rw [hv] at h1
 rw [hl] at h2
 cases h1
 cases h2
 exact h3.2.2
theorem own_cap {w:World} {base E sz n c:Nat} {oa:Option Addr} {xs:List Value} (h:w.ownsRow base E sz (.slice oa n c) n xs):n≤c:=by
 rcases h.2 with ⟨e,h3⟩|⟨g,cap,cur,e,hb,hh,hl,hc,hs,ht⟩
 ·simp only [Value.slice.injEq] at e
  omega
 ·simp only [Value.slice.injEq] at e
  omega
theorem list_set {α:Type} (l:List α) (i:Nat) (z:α) (h:i<l.length):l.take i++[z]++l.drop (i+1)=l.set i z:=by
 rw [List.set_eq_take_append_cons_drop,if_pos h,List.append_assoc];rfl
theorem lk_more {w:World} {lab:List (List Int)} {BL T:List Nat} {LV:List Value} {X:List (Value×List Int)} {v:Value} {l:List Int} {to:Nat} (hlen:to<LV.length) (hl:lab[to]?=some l) (hnot:to∉T) (h:LkP lab BL T LV ((v,l)::X) w):LkP lab BL (T++[to]) (LV.set to v) X w:=by
 refine⟨fun i hi=>?_,fun q hq=>h.2 q (.tail _ hq)⟩
 rcases List.mem_append.1 hi with hi|hi
 ·obtain⟨v',l',h1,h2,h3⟩:=h.1 i hi
  exact⟨v',l',by rw [List.getElem?_set_ne (fun e=>hnot (by rw [e];exact hi))];exact h1,h2,h3⟩
 ·simp only [List.mem_singleton] at hi
  subst hi
  exact⟨v,l,by rw [List.getElem?_set_self hlen],hl,h.2 _ (.head _)⟩
theorem NdRow.at {w:World} {T:Nat→Prop} {on:Option Addr} {N:List Gn} (h:NdRow w T on N) (h0:0<N.length):∃ b off,on=some ⟨b,off,none⟩∧T b∧b<w.heap.size∧∀ (j:Nat) x,N[j]?=some x→∀ (i:Nat) v,(gnC x j)[i]?=some v→w.cell? ⟨b,off+j*13+i,none⟩=some v:=by
 rcases h with h|⟨b,off,h1,h2,h3,h4⟩
 ·omega
 ·refine⟨b,off,h1,h2,h3,fun j x hx i v hi=>?_⟩
  obtain⟨hj,-⟩:=List.getElem?_eq_some_iff.1 hx
  have:=(h4 j hj).2 i v
  dsimp only at this
  rw [List.getD_eq_getElem?_getD,hx] at this
  exact this hi
set_option maxHeartbeats 4000000 in
theorem held_any (T:Nat→Prop) (nS nL lc s zn:Nat) (on:Option Addr) (nm:Wd) (N:List Gn) (lab:List (List Int)) (hN:GrOk nS nL lc N s lab) (w:World) (hc:NdRow w T on N) :
    Ret Tryz.prog 24 [.agg [str nm,.int .i64 (lc:Int),.int .i64 (s:Int),.slice on N.length zn].toArray] w fun v w'=>(∃ lv,v=.tuple #[lv,.int .i64 (-1)])∧Chg [] w w':=by
 obtain⟨nb,off,rfl,-,-,hcc⟩:=hc.at hN.pos
 refine ret_of [_] func24 rfl ntmps24 rfl ?_
 have st:=St.init w []
 obtain⟨w0,rfl⟩:∃ w0,w0=w:=⟨_,rfl⟩
 have hpos:=hN.pos
 have hle:=hN.le
 have hlen:=hN.len
 refine sr ?_
 refine vc_e (e_bx (l:=[_,_,_,_]) st rfl rfl rfl rfl ?_)
 intro b1 w hb1 st
 iterate 2 refine ya ?_
 refine et (vk1 1 (sr ?_))
 refine yfz 3 underlying43 sizeOf41 ?_
 refine yl st 0 isAgg41 ?_
 refine vy (y_lensl rfl underlying41) ?_
 refine vc_e (e_mkN (z:=(Value.slice none 0 0)) st rfl rfl rfl rfl underlying86 Tryz.info44 rfl rfl rfl (by omega) (by show 24*_≤_;omega) (by unfold maxLen;omega) ?_)
 intro b16 w hb16 st
 refine ya ?_
 refine et (vk2 1 4 (sr ?_))
 refine vc_e (e_mkI st rfl rfl ?_)
 intro b17 w hb17 st
 refine vc_e (e_inI st 0 rfl rfl rfl rfl rfl (.inr hb17) underlying151 underlying3 rfl ?_)
 intro w st;dsimp only [setNth,List.nil_append] at st
 refine ym ?_
 refine ya ?_
 refine et (vk3 1 4 5 (sr ?_))
 refine vc_e (e_bs1 (l:=[_]) st rfl rfl rfl rfl underlying44 sizeOf3 rfl rfl rfl zeroValue3 ?_)
 intro b19 w hb19 st
 refine ya ?_
 refine et (vk4 1 4 5 6 (vc_seq (sr ?_)))
 replace st:=st.toOwn (size:=1) (len:=1) hb19 rfl (by decide)
 replace st:=((st.add (r:=lkR lab [] [0] (List.replicate N.length (.slice none 0 0)) []) (lkR_holds ⟨fun i hi=>by
     simp only [List.mem_singleton] at hi
     subst hi
     exact⟨_,_,by rw [List.getElem?_replicate,if_pos hpos];rfl,hN.fst,⟨none,0,rfl⟩,by simp [Value.ownBlock],World.ownsRow_nil _ _ _ _⟩,by simp⟩ (by simp)) (by simp [lkR,Res.at?])).pick [1,2,3,0,4] rfl (by decide))
 refine ya ?_
 refine et (vk5 1 4 5 6 7 (vc_block ?_))
 refine vc_loop (w0:=w0) (M:=[]) (fun (y:Nat×List Nat×Option Addr×Nat×List Value×List Nat)=>[(1,.pointer (some ⟨b1,0,none⟩)),(4,.slice (some ⟨b16,0,none⟩) N.length N.length),(5,.map (some b17)),(6,.slice y.2.2.1 y.2.1.length y.2.2.2.1),(7,.int .i64 (y.1:Int))]) (fun y=>[.own (.slice y.2.2.1 y.2.1.length y.2.2.2.1) 3 1 y.2.1.length (nV y.2.1),.blk b17 (mapI (fndI y.2.1)),.own (.slice (some ⟨b16,0,none⟩) N.length N.length) 44 1 N.length y.2.2.2.2.1,lkR lab y.2.2.2.2.2 y.2.1 y.2.2.2.2.1 [],.blk b1 (.cells [str nm,.int .i64 (lc:Int),.int .i64 (s:Int),.slice (some ⟨nb,off,none⟩) N.length zn].toArray 43 (0,0))]) (fun y w'=>y.1≤y.2.1.length∧y.2.1.Nodup∧(∀ i∈y.2.1,i<N.length)∧y.2.2.2.2.1.length=N.length∧Shal lab y.2.1) (fun y=>N.length - y.1) (0,[0],some ⟨b19,0,none⟩,1,List.replicate N.length (.slice none 0 0),[]) ⟨rfl,rfl,rfl,rfl,rfl,trivial⟩ st ⟨by simp,by simp,by simpa using hpos,by simp,Shal.first hN.fst⟩ ?_
 clear st
 rintro ⟨k,T0,ot,ct,LV,BL⟩ w ⟨hk,hnd,hb,hLV,hsh⟩ st
 dsimp only at hk hnd hb hLV hsh st ⊢
 have hTl:=nodup_len hnd hb
 refine vc_seq (sr ?_)
 iterate 2 refine ym ?_
 refine vy (y_lensl rfl underlying44) ?_
 refine vy (y_lss rfl rfl) ?_
 refine et (vk6 1 4 5 6 7 23 ?_)
 refine vif ?_ ?_
 ·intro hc23
  try simp only [dn] at hc23
  have stK:=st
  have hk2:k<T0.length:=by omega
  obtain⟨tb,tc,hg,-⟩:=own_form (st.res (i:=0) rfl) (by omega)
  simp only [Value.slice.injEq,true_and] at hg
  obtain⟨rfl,rfl⟩:=hg
  obtain⟨i,hi⟩:∃ i,T0[k]?=some i:=⟨_,List.getElem?_eq_getElem hk2⟩
  have him:=List.mem_of_getElem? hi
  have hiN:=hb i him
  obtain⟨x,hx⟩:∃ x,N[i]?=some x:=⟨_,List.getElem?_eq_getElem hiN⟩
  obtain⟨v,l,hv,hl,hR⟩:=(st.res (i:=3) rfl).1.1 i him
  obtain⟨⟨oa,cv,rfl⟩,hRb,hRo⟩:=hR
  have hno:=hN.node i x l hx hl
  obtain⟨hA6,hA9⟩:=hno.1
  have hll:l.length≤k:=hsh k i l hi hl
  have haftl:(aft x l).length≤l.length+1:=aft_len x l
  have st:=stK
  refine kt (vk5 1 4 5 6 7 (vc_seq (vc_block (sr ?_))))
  iterate 2 refine ym ?_
  refine vy (y_ia0 (k:=k) rfl rfl underlying44 sizeOf3 rfl (by omega)) ?_
  refine vy ((by exact y_ldo st 0 rfl isAgg3 rfl (by rw [Nat.mul_one,List.getElem?_map,hi];rfl))) ?_
  refine ya ?_
  refine et (vk6 1 4 5 6 7 8 (sr ?_))
  refine yfz 3 underlying43 sizeOf41 ?_
  refine yl st 4 isAgg41 ?_
  refine ym ?_
  refine vy (y_ia (k:=i) rfl rfl underlying41 sizeOf83 rfl (by omega)) ?_
  refine vy (y_ldca (gnC x i) rfl isAgg83 sizeOf83 rfl (fun q v hq=>st.chg.cell (hcc i x hx q v hq) (by simp))) ?_
  refine vc_e (e_al (l:=[_,_,_,_,_,_,_,_,_,_,_,_,_]) st rfl rfl zeroValue83 rfl ?_)
  intro b9 w hb9 st
  refine vc_e (ests st 0 [_,_,_,_,_,_,_,_,_,_,_,_,_] sizeOf83 ?_)
  intro w st;dsimp only [setNth,wr] at st
  refine et (vk7 1 4 5 6 7 8 9 (sr ?_))
  iterate 2 refine ym ?_
  refine vy (y_ia0 (k:=i) rfl rfl underlying86 sizeOf44 rfl (by omega)) ?_
  refine vy ((by exact y_ldo st 3 rfl isAgg44 rfl (by rw [Nat.mul_one];exact hv))) ?_
  refine ya ?_
  refine et (vk8 1 4 5 6 7 8 9 10 ?_)
  refine vc_cut (w0:=w0) (M:=[]) (fun (z:Option Addr×Nat×List Nat)=>[(1,.pointer (some ⟨b1,0,none⟩)),(4,.slice (some ⟨b16,0,none⟩) N.length N.length),(5,.map (some b17)),(6,.slice (some ⟨tb,0,none⟩) T0.length ct),(7,.int .i64 (k:Int)),(9,.pointer (some ⟨b9,0,none⟩)),(10,(.slice z.1 (aft x l).length z.2.1))]) (fun z=>[.blk b9 (.cells (gnC x i).toArray 83 (0,0)),.own (.slice (some ⟨tb,0,none⟩) T0.length ct) 3 1 T0.length (nV T0),.blk b17 (mapI (fndI T0)),.own (.slice (some ⟨b16,0,none⟩) N.length N.length) 44 1 N.length LV,lkR lab z.2.2 T0 LV [((.slice z.1 (aft x l).length z.2.1),aft x l)],.blk b1 (.cells [str nm,.int .i64 (lc:Int),.int .i64 (s:Int),.slice (some ⟨nb,off,none⟩) N.length zn].toArray 43 (0,0))]) (fun z w=>True) ?_ ?_
  ·refine vc_seq ?_
   refine vc_region ?_
   refine vy (y_fa0 rfl underlying83 rfl rfl sizeOf79 rfl) ?_
   refine yl st 0 isAgg79 ?_
   refine et (vk9 1 4 5 6 7 8 9 10 40 (vc_block (sr ?_)))
   refine vy (y_eqi rfl rfl) ?_
   refine ya ?_
   refine et (vk10 1 4 5 6 7 8 9 10 40 41 ?_)
   refine vif ?_ ?_
   ·intro hc41
    try simp only [dn] at hc41
    have hx5:x.k=5:=by omega
    have haf:aft x l=l++[x.th]:=by unfold aft;rw [if_pos hx5]
    have hl1:(l++[x.th]).length=l.length+1:=by simp
    refine ddr0 Tryz.mixed (.take 0 (.take 2 (.take 3 (.two 1 4 (.one 4 (.one 5 (.take 6 .done))) (.one 1 (.one 5 (.take 6 .done))))))) st ?_
    clear st;intro w st hS
    refine dm hS ?_
    refine dfz hS 3 underlying83 sizeOf3 ?_
    refine dld hS 0 isAgg3 ?_
    refine vd_two rfl rfl ?_ ?_
    ·refine(e_call [_] rfl rfl call61 rfl (by exact iclone_any l oa cv (by omega) _ (owns_now ((st.res (i:=4) rfl).1.1 i him) hv hl)) ?_)
     rintro _ w ⟨⟨o1,c1,rfl,how⟩,cw⟩
     replace st:=st.pushOwn cw how
     refine vd_next st.dr ?_;intro hS
     refine vd_do rfl (e_bs1 (l:=[_]) st rfl rfl rfl rfl underlying44 sizeOf3 rfl rfl rfl zeroValue3 ?_)
     intro b47 w hb47 st
     refine vd_next st.dr ?_;intro hS
     refine vd_do rfl (e_app (bytes:=8) st 1 0 rfl rfl rfl rfl rfl rfl underlying44 Tryz.info3b rfl rfl rfl rfl rfl (by simp) rfl rfl (by unfold maxLen;omega) (by omega) ?_)
     intro oa48 cap48 w st;dsimp only [setNth] at st
     rw [show iL l++[Value.int .i64 x.th]=iL (l++[x.th]) from by simp] at st
     refine vd_next st.dr ?_;intro hS
     refine vd_take rfl rfl rfl hS (fun w st=>y_as rfl) ?_
     refine vd_end (vq_block ?_)
     refine vq_meet (oa48,cap48,_) (by dsimp only;rw [haf,hl1];exact⟨rfl,rfl,rfl,rfl,rfl,rfl,rfl,trivial⟩) (by dsimp only;rw [haf,hl1];have h1:=st.pick [6,1,2,3,4,5,7] rfl (by decide);have h2:=h1.lkAdd (l:=l++[x.th]) hl1.symm;exact h2.pick [1,2,3,4,0,5] rfl (by decide)) ?_
     ·trivial
    refine(e_bs1 (l:=[_]) st rfl rfl rfl rfl underlying44 sizeOf3 rfl rfl rfl zeroValue3 ?_)
    intro b47 w hb47 st
    refine vd_next st.dr ?_;intro hS
    refine vd_do rfl (e_call [_] rfl rfl call61 rfl (by exact iclone_any l oa cv (by omega) _ (owns_now ((st.res (i:=5) rfl).1.1 i him) hv hl)) ?_)
    rintro _ w ⟨⟨o1,c1,rfl,how⟩,cw⟩
    replace st:=st.pushOwn cw how
    refine vd_next st.dr ?_;intro hS
    refine vd_do rfl (e_app (bytes:=8) st 0 1 rfl rfl rfl rfl rfl rfl underlying44 Tryz.info3b rfl rfl rfl rfl rfl (by simp) rfl rfl (by unfold maxLen;omega) (by omega) ?_)
    intro oa48 cap48 w st;dsimp only [setNth] at st
    rw [show iL l++[Value.int .i64 x.th]=iL (l++[x.th]) from by simp] at st
    refine vd_next st.dr ?_;intro hS
    refine vd_take rfl rfl rfl hS (fun w st=>y_as rfl) ?_
    refine vd_end (vq_block ?_)
    refine vq_meet (oa48,cap48,_) (by dsimp only;rw [haf,hl1];exact⟨rfl,rfl,rfl,rfl,rfl,rfl,rfl,trivial⟩) (by dsimp only;rw [haf,hl1];have h1:=st.pick [6,0,2,3,4,5,7] rfl (by decide);have h2:=h1.lkAdd (l:=l++[x.th]) hl1.symm;exact h2.pick [1,2,3,4,0,5] rfl (by decide)) ?_
    ·trivial
   intro hc41
   try simp only [dn] at hc41
   refine sr ?_
   refine vy (y_eqi rfl rfl) ?_
   refine ya ?_
   refine et (vk10 1 4 5 6 7 8 9 10 40 49 ?_)
   refine vif ?_ ?_
   ·intro hc49
    try simp only [dn] at hc49
    have hx6:x.k=6:=by omega
    have haf:aft x l=l.dropLast:=by unfold aft;rw [if_neg (by omega),if_pos hx6]
    have hlast:=hA6 hx6
    have hlpos:0<l.length:=by
     cases l with
     | nil=>simp at hlast
     | cons a r=>simp
    obtain⟨lb,lc2,hg,-⟩:=own_form hRo hlpos
    simp only [Value.slice.injEq,true_and] at hg
    obtain⟨rfl,rfl⟩:=hg
    have hthl:(iL l)[(l.length - 1)*1]?=some (.int .i64 x.th):=by
     rw [Nat.mul_one,List.getElem?_map,← List.getLast?_eq_getElem?,hlast];rfl
    have hdl:l.dropLast.length=l.length - 1:=List.length_dropLast
    refine vc_seq (vc_seq ?_)
    refine vdr Tryz.mixed [Yt 0,Yt 1,Yt 2,Yt 3,Yt 4,Yt 5,Yt 6,Yt 7,Yt 8,Yt 9,Yt 10,Yt 11,Yt 12,Yt 13] [.blk b9 (.cells (gnC x i).toArray 83 (0,0)),.own (.slice (some ⟨tb,0,none⟩) T0.length ct) 3 1 T0.length (nV T0),.blk b17 (mapI (fndI T0)),.own (.slice (some ⟨b16,0,none⟩) N.length N.length) 44 1 N.length LV,lkR lab BL T0 LV [],.blk b1 (.cells [str nm,.int .i64 (lc:Int),.int .i64 (s:Int),.slice (some ⟨nb,off,none⟩) N.length zn].toArray 43 (0,0))] st ?_
    clear st;intro w st hS
    refine pm hS ?_
    refine vp_take rfl rfl rfl hS (fun w st=>y_lensl rfl underlying44) ?_
    refine vp_take rfl rfl rfl hS (fun w st=>y_eqi rfl rfl) ?_
    refine vp_part rfl rfl rfl hS rfl ?_ ?_
    ·intro hg54
     exfalso;simp only [decide_eq_true_eq] at hg54;omega
    intro hg54
    try simp only [dn] at hg54
    iterate 2 refine pm hS ?_
    refine vp_take rfl rfl rfl hS (fun w st=>y_lensl rfl underlying44) ?_
    refine vp_take rfl rfl rfl hS (fun w st=>y_sub rfl rfl (by omega:_=((l.length - 1:Nat):Int)) (by omega) (by omega)) ?_
    refine vp_take rfl rfl rfl hS (fun w st=>y_ia0 (k:=(l.length - 1)) rfl rfl underlying44 sizeOf3 rfl (by omega)) ?_
    refine vp_take rfl rfl rfl hS (fun w st=>y_ldc rfl isAgg3 (own_cell (owns_now ((st.res (i:=4) rfl).1.1 i him) hv hl) hthl)) ?_
    refine pfz hS 3 underlying83 sizeOf3 ?_
    refine pld hS 0 isAgg3 ?_
    refine vp_take rfl rfl rfl hS (fun w st=>y_nei rfl rfl) ?_
    refine vp_take rfl rfl rfl hS (fun w st=>y_pickf rfl rfl) ?_
    refine vp_end (vq_then (vk9 1 4 5 6 7 8 9 10 64 ?_))
    refine vif ?_ ?_
    ·intro hc64
     exact absurd hc64 (by simp)
    intro hc64
    try simp only [dn] at hc64
    refine kt (vk7 1 4 5 6 7 9 10 (vc_region ?_))
    iterate 2 refine ym ?_
    refine vy (y_lensl rfl underlying44) ?_
    refine vy (y_sub rfl rfl (by omega:_=((l.length - 1:Nat):Int)) (by omega) (by omega)) ?_
    refine vy (y_slh (j:=(l.length - 1)) rfl rfl underlying44 sizeOf3 rfl (by have:=own_cap hRo;omega)) ?_
    have hpre:Rds w BL (.slice (some ⟨lb,0,none⟩) l.dropLast.length cv) l.dropLast:=by
     refine⟨⟨_,_,rfl⟩,fun b hb=>hRb b (by simpa [Value.ownBlock] using hb),?_⟩
     have h:=own_pre (m:=l.length - 1) (owns_now ((st.res (i:=4) rfl).1.1 i him) hv hl) (by omega) hlpos
     rw [hdl]
     have e:(iL l).take ((l.length - 1)*1)=iL l.dropLast:=by rw [Nat.mul_one,iL,iL,← List.map_take,List.dropLast_eq_take]
     rw [e] at h
     exact h
    rw [hdl] at hpre
    refine ya ?_
    refine vc_end (vq_block ?_)
    refine vq_meet (some ⟨lb,0,none⟩,cv,BL) (by dsimp only;rw [haf,hdl];exact⟨rfl,rfl,rfl,rfl,rfl,rfl,rfl,trivial⟩) (by dsimp only;rw [haf,hdl];exact(((st.pick [4,0,1,2,3,5] rfl (by decide)).lkTo (fun h=>⟨h.1,fun q hq=>by simp only [List.mem_singleton] at hq;subst hq;exact hpre⟩)).pick [1,2,3,4,0,5] rfl (by decide))) ?_
    ·trivial
   intro hc49
   try simp only [dn] at hc49
   refine sr ?_
   refine vy (y_eqi rfl rfl) ?_
   refine ya ?_
   refine et (vk9 1 4 5 6 7 8 9 10 71 ?_)
   refine vif ?_ ?_
   ·intro hc71
    try simp only [dn] at hc71
    have hx9:x.k=9:=by omega
    have hl0:l=[]:=hA9 hx9
    subst hl0
    have haf:aft x []=[]:=by unfold aft;rw [if_neg (by omega),if_neg (by omega)]
    refine sr ?_
    refine ym ?_
    refine vy (y_lensl rfl underlying44) ?_
    refine vy (y_gtr rfl rfl) ?_
    refine et (vk9 1 4 5 6 7 8 9 10 75 ?_)
    refine vif ?_ ?_
    ·intro hc75
     exact absurd hc75 (by simp)
    intro hc75
    try simp only [dn] at hc75
    refine vc_code_skip (vq_block ?_)
    refine vq_meet (oa,cv,BL) (by dsimp only;rw [haf];exact⟨rfl,rfl,rfl,rfl,rfl,rfl,rfl,trivial⟩) (by dsimp only;rw [haf];exact(((st.pick [4,0,1,2,3,5] rfl (by decide)).lkTo (fun h=>⟨h.1,fun q hq=>by simp only [List.mem_singleton] at hq;subst hq;exact⟨⟨oa,cv,rfl⟩,hRb,owns_now (h.1 i him) hv hl⟩⟩)).pick [1,2,3,4,0,5] rfl (by decide))) ?_
    ·trivial
   intro hc71
   try simp only [dn] at hc71
   have haf:aft x l=l:=by unfold aft;rw [if_neg (by omega),if_neg (by omega)]
   refine vc_code_skip (vq_block ?_)
   refine vq_meet (oa,cv,BL) (by dsimp only;rw [haf];exact⟨rfl,rfl,rfl,rfl,rfl,rfl,rfl,trivial⟩) (by dsimp only;rw [haf];exact(((st.pick [4,0,1,2,3,5] rfl (by decide)).lkTo (fun h=>⟨h.1,fun q hq=>by simp only [List.mem_singleton] at hq;subst hq;exact⟨⟨oa,cv,rfl⟩,hRb,owns_now (h.1 i him) hv hl⟩⟩)).pick [1,2,3,4,0,5] rfl (by decide))) ?_
   ·trivial
  clear st
  rintro ⟨no,nc,BL1⟩ w - st
  dsimp only at st ⊢
  refine sr ?_
  refine yla st 0 [_,_,_,_,_,_,_,_,_,_,_,_,_] isAgg83 sizeOf83 ?_
  refine vc_e (e_call [_] rfl rfl call62 rfl (follow_any x i _) ?_)
  rintro _ w ⟨⟨fo,fc,rfl,how⟩,cw⟩
  replace st:=st.pushOwn cw how
  refine vy (y_lensl rfl underlying44) ?_
  refine ym ?_
  refine et (vk9 1 4 5 6 7 10 78 79 80 (vc_block ?_))
  refine vc_loop (w0:=w0) (M:=[]) (fun (y:Nat×List Nat×Option Addr×Nat×List Value×List Nat)=>[(1,.pointer (some ⟨b1,0,none⟩)),(4,.slice (some ⟨b16,0,none⟩) N.length N.length),(5,.map (some b17)),(6,.slice y.2.2.1 y.2.1.length y.2.2.2.1),(7,.int .i64 (k:Int)),(10,.slice no (aft x l).length nc),(78,.slice fo (flG x).length fc),(79,.int .i64 ((flG x).length:Int)),(80,.int .i64 (y.1:Int))]) (fun y=>[.own (.slice y.2.2.1 y.2.1.length y.2.2.2.1) 3 1 y.2.1.length (nV y.2.1),.blk b17 (mapI (fndI y.2.1)),.own (.slice (some ⟨b16,0,none⟩) N.length N.length) 44 1 N.length y.2.2.2.2.1,lkR lab y.2.2.2.2.2 y.2.1 y.2.2.2.2.1 [(.slice no (aft x l).length nc,aft x l)],.own (.slice fo (flG x).length fc) 3 1 (flG x).length (nV (flG x)),.blk b1 (.cells [str nm,.int .i64 (lc:Int),.int .i64 (s:Int),.slice (some ⟨nb,off,none⟩) N.length zn].toArray 43 (0,0))]) (fun y w'=>y.1≤(flG x).length∧k<y.2.1.length∧y.2.1.Nodup∧(∀ i∈y.2.1,i<N.length)∧y.2.2.2.2.1.length=N.length∧Shal lab y.2.1) (fun y=>(flG x).length - y.1) (0,T0,some ⟨tb,0,none⟩,ct,LV,BL1) ⟨rfl,rfl,rfl,rfl,rfl,rfl,rfl,rfl,rfl,trivial⟩ (st.pick [2,3,4,5,0,6] rfl (by decide)) ⟨by simp,hk2,hnd,hb,hLV,hsh⟩ ?_
  clear st
  rintro ⟨j,Tj,oj,cj,LVj,BLj⟩ w ⟨hj,hkj,hndj,hbj,hLVj,hshj⟩ st
  dsimp only at hj hkj hndj hbj hLVj hshj st ⊢
  have hTjl:=nodup_len hndj hbj
  have hfl2:(flG x).length≤2:=flG_len x
  refine sr ?_
  refine vy (y_lss rfl rfl) ?_
  refine et (vk10 1 4 5 6 7 10 78 79 80 81 (vc_seq ?_))
  refine vif ?_ ?_
  ·intro hc81
   try simp only [dn] at hc81
   have stK:=st
   obtain⟨tbj,tcj,hg,-⟩:=own_form (st.res (i:=0) rfl) (by omega)
   simp only [Value.slice.injEq,true_and] at hg
   obtain⟨rfl,rfl⟩:=hg
   obtain⟨fb,fc2,hg,-⟩:=own_form (st.res (i:=4) rfl) (by omega)
   simp only [Value.slice.injEq,true_and] at hg
   obtain⟨rfl,rfl⟩:=hg
   obtain⟨to,hto0⟩:∃ to,(flG x)[j]?=some to:=⟨_,List.getElem?_eq_getElem (by omega)⟩
   have hlto:=flG_lab hno (List.mem_of_getElem? hto0)
   have htoN:to<N.length:=by rw [← hlen];exact(List.getElem?_eq_some_iff.1 hlto).1
   obtain⟨bf,hbf,hbf2⟩:∃ b,(getI (fndI Tj) (to:Int)).getD (.bool false)=.bool b∧(b=true↔to∈Tj):=by
    rw [fnd_get]
    by_cases h:to∈Tj
    ·exact⟨true,by simp [h],by simp [h]⟩
    ·exact⟨false,by simp [h],by simp [h]⟩
   have st:=stK
   refine kt (vk9 1 4 5 6 7 10 78 79 80 (vc_seq (vc_block (sr ?_))))
   refine vy (y_ia0 (k:=j) rfl rfl underlying44 sizeOf3 rfl (by omega)) ?_
   refine vy ((by exact y_ldo st 4 rfl isAgg3 rfl (by rw [Nat.mul_one,List.getElem?_map,hto0];rfl))) ?_
   refine ya ?_
   refine et (vk10 1 4 5 6 7 10 12 78 79 80 (sr ?_))
   iterate 2 refine ym ?_
   refine vc_e (e_lkI1 (z:=.bool false) st 1 rfl rfl rfl rfl rfl underlying151 underlying3 zeroValue4 ?_)
   rw [hbf]
   refine vy (y_not rfl) ?_
   refine et (vc_keep [(1,_),(4,_),(5,_),(6,_),(7,_),(10,_),(12,_),(78,_),(79,_),(80,_),(87,_)] ⟨rfl,rfl,rfl,rfl,rfl,rfl,rfl,rfl,rfl,rfl,rfl,trivial⟩ ?_)
   refine vif ?_ ?_
   ·intro hc87
    try simp only [dn] at hc87
    have hbf3:bf=false:=by simpa using hc87
    have hnot:to∉Tj:=fun h=>by rw [hbf2.2 h] at hbf3;cases hbf3
    have hno2:getI (fndI Tj) (to:Int)=none:=by rw [fnd_get,if_neg hnot]
    have hTn:(Tj++[to]).length=Tj.length+1:=by simp
    have hfn:nV (Tj++[to])=nV Tj++[.int .i64 (to:Int)]:=by simp
    have hfi:fndI (Tj++[to])=fndI Tj++[((to:Int),.bool true)]:=by simp
    refine sr ?_
    iterate 2 refine ym ?_
    refine vc_e (e_muI st 1 rfl rfl rfl rfl rfl (.inr hb17) underlying151 underlying3 hno2 ?_)
    intro w st;dsimp only [setNth] at st
    refine et (vk10 1 4 5 6 7 10 12 78 79 80 (sr ?_))
    iterate 3 refine ym ?_
    refine vc_e (e_call [_] rfl rfl call61 rfl (iclone_any (aft x l) no nc (by omega) _ (((st.res (i:=3) rfl).1.2 _ (.head _)).2.2)) ?_)
    rintro _ w ⟨⟨o2,c2,rfl,how⟩,cw⟩
    replace st:=st.pushOwn cw how
    refine vy (y_ia0 (k:=to) rfl rfl underlying86 sizeOf44 rfl (by omega)) ?_
    refine vc_e (e_stso (vs:=[_]) st 3 rfl rfl rfl rfl rfl sizeOf44 rfl (by simp;omega) ?_)
    intro w st;dsimp only [setNth] at st
    simp only [Nat.mul_one,List.length_singleton] at st
    rw [list_set _ _ _ (by omega)] at st
    refine et (vk10 1 4 5 6 7 10 12 78 79 80 (vc_region ?_))
    iterate 2 refine ym ?_
    refine vc_e (e_bs1 (l:=[_]) st rfl rfl rfl rfl underlying44 sizeOf3 rfl rfl rfl zeroValue3 ?_)
    intro b97 w hb97 st
    refine vc_e (e_app (bytes:=8) st 2 0 rfl rfl rfl rfl rfl rfl underlying44 Tryz.info3 rfl rfl rfl rfl rfl (by simp) rfl rfl (by unfold maxLen;omega) (by omega) ?_)
    intro oa98 cap98 w st;dsimp only [setNth] at st
    refine ya ?_
    refine vc_end (vq_block (vq_then (vk9 1 4 5 6 7 10 78 79 80 (vc_region ?_))))
    refine vy (y_add rfl rfl (by omega:_=((j+1:Nat):Int)) (by omega) (by omega)) ?_
    refine ym ?_
    refine vc_end ?_
    refine vq_again (j+1,Tj++[to],oa98,cap98,LVj.set to (.slice o2 (aft x l).length c2),obk o2++BLj)  (by dsimp only;rw [hTn];exact⟨rfl,rfl,rfl,rfl,rfl,rfl,rfl,rfl,rfl,trivial⟩) (by dsimp only;rw [hTn,hfn,hfi];have h1:=st.pick [5,1,2,3,4,6,7] rfl (by decide);have h2:=(h1.lkAdd rfl).lkTo (lk_more (by omega) hlto hnot);exact h2.pick [1,2,3,0,4,5] rfl (by decide)) ?_ ?_
    ·refine⟨by dsimp only;omega,by dsimp only;simp;omega,?_,?_,by simpa using hLVj,?_⟩
     ·exact List.nodup_append.2 ⟨hndj,by simp,fun a ha b hb e=>hnot (by simp only [List.mem_singleton] at hb;rw [← hb,← e];exact ha)⟩
     ·intro q hq
      rcases List.mem_append.1 hq with hq|hq
      ·exact hbj q hq
      ·simp only [List.mem_singleton] at hq;rw [hq];exact htoN
     exact hshj.snoc hlto (by omega)
    dsimp only;omega
   intro hc87
   try simp only [dn] at hc87
   have hbf3:bf=true:=by simpa using hc87
   have hin:=hbf2.1 hbf3
   obtain⟨v2,l2,hv2,hl2,hR2⟩:=(st.res (i:=3) rfl).1.1 to hin
   have hl2e:l2=aft x l:=by rw [hlto] at hl2;exact(Option.some.inj hl2).symm
   subst hl2e
   obtain⟨⟨o3,c3,rfl⟩,-,hR2o⟩:=hR2
   refine sr ?_
   iterate 2 refine ym ?_
   refine vy (y_ia0 (k:=to) rfl rfl underlying86 sizeOf44 rfl (by omega)) ?_
   refine vy ((by exact y_ldo st 2 rfl isAgg44 rfl (by rw [Nat.mul_one];exact hv2))) ?_
   refine ym ?_
   refine vc_e (e_call [_,_] rfl rfl call63 rfl (iequal_any (aft x l) o3 no c3 nc (by omega) _ hR2o (((st.res (i:=3) rfl).1.2 _ (.head _)).2.2)) ?_)
   rintro _ w ⟨rfl,cw⟩
   replace st:=st.call0 cw
   refine vy (y_not rfl) ?_
   refine et (vc_keep [(1,_),(4,_),(5,_),(6,_),(7,_),(10,_),(12,_),(78,_),(79,_),(80,_),(105,_)] ⟨rfl,rfl,rfl,rfl,rfl,rfl,rfl,rfl,rfl,rfl,rfl,trivial⟩ ?_)
   refine vif ?_ ?_
   ·intro hc105
    exact absurd hc105 (by simp)
   intro hc105
   try simp only [dn] at hc105
   refine vc_code_skip (vq_block (vq_then (vk9 1 4 5 6 7 10 78 79 80 (vc_region ?_))))
   refine vy (y_add rfl rfl (by omega:_=((j+1:Nat):Int)) (by omega) (by omega)) ?_
   refine ym ?_
   refine vc_end ?_
   refine vq_again (j+1,Tj,some ⟨tbj,0,none⟩,cj,LVj,BLj)  ⟨rfl,rfl,rfl,rfl,rfl,rfl,rfl,rfl,rfl,trivial⟩ st ?_ ?_
   ·exact⟨by dsimp only;omega,hkj,hndj,hbj,hLVj,hshj⟩
   dsimp only;omega
  intro hc81
  try simp only [dn] at hc81
  refine vc_exit (vq_then_exit (vq_then_exit (vq_block_exit (vq_block (vq_then (vk5 1 4 5 6 7 (vc_region ?_)))))))
  refine ym ?_
  refine vy (y_add rfl rfl (by omega:_=((k+1:Nat):Int)) (by omega) (by omega)) ?_
  refine ya ?_
  refine vc_end ?_
  refine vq_again (k+1,Tj,oj,cj,LVj,BLj)  ⟨rfl,rfl,rfl,rfl,rfl,trivial⟩ ((((st.pick [3,0,1,2,5] rfl (by decide)).lkTo (fun h=>⟨h.1,by simp⟩)).pick [1,2,3,0,4] rfl (by decide))) ?_ ?_
  ·exact⟨by dsimp only;omega,hndj,hbj,hLVj,hshj⟩
  dsimp only;omega
 intro hc23
 try simp only [dn] at hc23
 refine vc_exit (vq_then_exit (vq_then_exit (vq_block_exit (vq_then (vk1 4 (sr ?_))))))
 refine ym ?_
 iterate 2 refine ya ?_
 refine et (vk2 2 3 (vc_ret ?_))
 refine vq_ret2 st (.inl rfl) results24 (.tmp rfl) (.tmp rfl) ?_
 refine⟨_,rfl,?_⟩
 exact⟨⟨_,rfl⟩,st.chg⟩
end Go.Proofs.YtkhpdpenlnhbiaaGreatDoor
