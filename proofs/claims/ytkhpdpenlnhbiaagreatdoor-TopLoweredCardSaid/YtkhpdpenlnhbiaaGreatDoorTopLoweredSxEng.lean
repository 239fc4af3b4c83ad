/- A part of the proof: contracts of functions and plain laws; each theorem says its own conditions. -/
import Derived.WalkKit
import Derived.WalkSpells
import Derived.WalkLawsBesides
import Derived.OrdersHeld
import Derived.Deep.LoopGhost
import Derived.Maps.AppendAt
import Derived.Lib.Strings
import Derived.Lib.SmallJoins
/- The engine of these proofs,first part: what is known of a frame and of the memory,step by step. -/
namespace Sx
open Go Go.RowKit
set_option linter.unusedVariables false
set_option linter.unusedSimpArgs false
abbrev Kn:=List (Nat×Value)
def find:Kn→Nat→Option Value
  | [],_=>none
  | p::r,t=>match Nat.beq p.1 t with|true=>some p.2|false=>find r t
def evO (kn:Kn):Operand→Option Value
  | .tmp t=>find kn t
  | .const v=>some v
  | .func f=>some (.func (.func f) #[] #[])
  | .global g=>some (.pointer (some ⟨g,0,none⟩))
abbrev Fr:=Nat×List Deferred
structure K (n:Fr) (kn:Kn) (a:Act):Prop where
  defers:a.defers=n.2
  size:a.tmps.size=n.1
  get:∀ t v,find kn t=some v→a.tmps[t]?=some v
theorem K.ev {n:Fr} {kn:Kn} {a:Act} (h:K n kn a) {x:Operand} {v:Value} (hx:evO kn x=some v):a.eval x=v:=by
  cases x with
  | tmp t=>simp [Act.eval,h.get t v hx]
  | const c=>simpa [evO,Act.eval] using hx
  | global g=>simpa [evO,Act.eval] using hx
  | func f=>simpa [evO,Act.eval] using hx
def put (d:Option Nat) (v:Value) (kn:Kn):Kn:=match d with|some d=>(d,v)::kn|none=>kn
def okDst (n:Fr):Option Nat→Bool|some d=>Nat.blt d n.1|none=>true
theorem K.put {n:Fr} {kn:Kn} {a:Act} (h:K n kn a) {d:Option Nat} (hd:okDst n d=true) (v:Value):K n (Sx.put d v kn) (a.put d v):=by
  cases d with
  | none=>exact h
  | some d=>
    have hlt:d<n.1:=by simpa [okDst,Nat.blt_eq] using hd
    refine⟨h.defers,by simp [Act.put,h.size],fun t u ht=>?_⟩
    simp only [Sx.put,find] at ht
    simp only [Act.put]
    split at ht
    · rename_i he
      obtain rfl:d=t:=Nat.eq_of_beq_eq_true he
      rw [Array.getElem?_setIfInBounds_self_of_lt (by rw [h.size];exact hlt)]
      exact ht
    · rename_i he
      have hne:d≠t:=fun e=>by subst e;simp at he
      rw [Array.getElem?_setIfInBounds_ne hne]
      exact h.get t u ht
def Sub:Kn→Kn→Prop
  | [],_=>True
  | p::r,kn=>find kn p.1=some p.2∧Sub r kn
theorem Sub.find {kn' kn:Kn} (h:Sub kn' kn) {t:Nat} {v:Value} (ht:Sx.find kn' t=some v):Sx.find kn t=some v:=by
  induction kn' with
  | nil=>simp [Sx.find] at ht
  | cons p r ih=>
    simp only [Sx.find] at ht
    split at ht
    · rename_i he
      obtain rfl:p.1=t:=Nat.eq_of_beq_eq_true he
      rw [← ht];exact h.1
    · exact ih h.2 ht
theorem K.sub {n:Fr} {kn kn':Kn} {a:Act} (h:K n kn a) (hs:Sub kn' kn):K n kn' a:=
  ⟨h.defers,h.size,fun t v ht=>h.get t v (hs.find ht)⟩
def nth {α:Type}:List α→Nat→Option α
  | [],_=>none
  | x::_,0=>some x
  | _::r,i+1=>nth r i
theorem nth_eq {α:Type} (l:List α) (i:Nat):nth l i=l[i]?:=by
  induction l generalizing i with
  | nil=>simp [nth]
  | cons x r ih=>cases i <;> simp [nth,ih]
def setNth {α:Type}:List α→Nat→α→List α
  | [],_,_=>[]
  | _::r,0,y=>y::r
  | x::r,i+1,y=>x::setNth r i y
theorem setNth_eq {α:Type} (l:List α) (i:Nat) (y:α):setNth l i y=l.set i y:=by
  induction l generalizing i with
  | nil=>simp [setNth]
  | cons x r ih=>cases i <;> simp [setNth,ih]
def gd (L:List Oper) (kn:Kn):Option (Nat×Bool)→Option Bool
  | none=>some true
  | some (j,b)=>match ((nth L j).bind (·.dst)).bind (find kn) with
    | some (.bool c)=>some (c == b)
    | some _=>some false
    | none=>none
theorem K.gd {n:Fr} {kn:Kn} {a:Act} (h:K n kn a) {L:List Oper} {o:Oper} {r:Bool} (hg:gd L kn o.guard=some r) :
    Region.wanted o (yielded L.toArray a.tmps)=r:=by
  unfold Sx.gd at hg
  unfold Region.wanted
  cases hgd:o.guard with
  | none=>simp [hgd] at hg ⊢;exact hg
  | some p=>
    obtain⟨j,b⟩:=p
    simp only [hgd] at hg ⊢
    rw [nth_eq] at hg
    cases hn:(L[j]?).bind (·.dst) with
    | none=>simp [hn] at hg
    | some d=>
      simp only [hn,Option.bind_some] at hg
      have hy:yielded L.toArray a.tmps j=(match a.tmps[d]? with|some (.bool b)=>some b|_=>none):=by
        simp only [yielded,List.getElem?_toArray,hn,Option.bind_some]
        rcases a.tmps[d]? with _|v
        · rfl
        · cases v <;> rfl
      rw [hy]
      cases hf:find kn d with
      | none=>simp [hf] at hg
      | some v=>
        rw [h.get d v hf]
        cases v
        case bool c=>
          simp [hf] at hg
          subst hg
          cases c <;> cases b <;> rfl
        all_goals
          simp [hf] at hg
          subst hg
          rfl
structure Chg (M:List Nat) (w w':World):Prop where
  os:w'.os=w.os
  tape:w'.tape=w.tape
  output:w'.output=w.output
  size:w.heap.size≤w'.heap.size
  block:∀ k,k<w.heap.size→k∉M→w'.heap[k]?=w.heap[k]?
theorem Chg.refl (M:List Nat) (w:World):Chg M w w:=⟨rfl,rfl,rfl,Nat.le_refl _,fun _ _ _=>rfl⟩
theorem Chg.trans {M:List Nat} {a b c:World} (h:Chg M a b) (k:Chg M b c):Chg M a c:=
  ⟨k.os.trans h.os,k.tape.trans h.tape,k.output.trans h.output,Nat.le_trans h.size k.size,
   fun i hi hm=>(k.block i (Nat.lt_of_lt_of_le hi h.size) hm).trans (h.block i hi hm)⟩
theorem Chg.trans' {M M':List Nat} {a b c:World} (h:Chg M a b) (k:Chg M' b c) (hm:∀ x∈M',x∈M∨a.heap.size≤x):Chg M a c:=
  ⟨k.os.trans h.os,k.tape.trans h.tape,k.output.trans h.output,Nat.le_trans h.size k.size,
   fun i hi hn=>(k.block i (Nat.lt_of_lt_of_le hi h.size) (fun hx=>by rcases hm i hx with h1|h1;exact hn h1;omega)).trans (h.block i hi hn)⟩
theorem Chg.mono {M M':List Nat} {a b:World} (h:Chg M a b) (hm:∀ x∈M,x∈M'):Chg M' a b:=
  ⟨h.os,h.tape,h.output,h.size,fun i hi hn=>h.block i hi (fun hx=>hn (hm i hx))⟩
theorem Chg.of_nil {M:List Nat} {a b:World} (h:Chg [] a b):Chg M a b:=h.mono (by simp)
theorem Chg.cell {M:List Nat} {w w':World} (h:Chg M w w') {p:Addr} {v:Value} (hc:w.cell? p=some v) (hn:p.block∉M):w'.cell? p=some v:=
  (World.cell?_of_block (h.block p.block (World.block_lt_of_cell? w p hc) hn)).trans hc
theorem Chg.heap {M:List Nat} {w w':World} (h:Chg M w w') {b:Nat} {o:Obj} (hc:w.heap[b]?=some o) (hn:b∉M):w'.heap[b]?=some o:=
  (h.block b (Array.getElem?_eq_some_iff.1 hc).1 hn).trans hc
theorem Chg.below {w w':World} (h:Chg [] w w'):Below w.heap.size w w':=
  ⟨h.os,h.tape,h.output,h.size,fun k hk=>h.block k hk (by simp)⟩
theorem Chg.of_below {w w':World} (h:Below w.heap.size w w'):Chg [] w w':=
  ⟨h.os,h.tape,h.output,h.size,fun k hk _=>h.block k hk⟩
theorem Chg.drew (w:World):Chg [] w w.drew:=⟨rfl,rfl,rfl,Nat.le_refl _,fun _ _ _=>rfl⟩
theorem Chg.alloc (w:World) (o:Obj):Chg [] w (w.alloc o):=.of_below ((Below.refl _ w).alloc (Nat.le_refl _) o)
def Loc (S:List Nat) (φ:World→Prop):Prop:=∀ w w':World,w.heap.size≤w'.heap.size→(∀ k∈S,w'.heap[k]?=w.heap[k]?)→φ w→φ w'
inductive Res where
  | blk (b:Nat) (o:Obj)
  | own (v:Value) (e size n:Nat) (xs:List Value)
  | tree (S:List Nat) (φ:World→Prop)
def Res.at?:Res→List Nat
  | .blk b _=>[b]
  | .own v _ _ _ _=>v.ownBlock.toList
  | .tree S _=>S
def Res.holds (base:Nat) (w:World):Res→Prop
  | .blk b o=>w.heap[b]?=some o
  | .own v e size n xs=>w.ownsRow base e size v n xs
  | .tree S φ=>φ w∧(∀ k∈S,k<w.heap.size)∧Loc S φ
def Apart (hs:List Res):Prop:=hs.Pairwise fun r s=>∀ k∈r.at?,k∉s.at?
structure St (w0:World) (M:List Nat) (hs:List Res) (w:World):Prop where
  chg:Chg M w0 w
  nodup:Apart hs
  here:∀ r∈hs,r.holds w0.heap.size w
theorem St.init (w:World) (M:List Nat):St w M [] w:=⟨Chg.refl M w,List.Pairwise.nil,by simp⟩
theorem mem_nth {α:Type} {l:List α} {i:Nat} {x:α} (h:nth l i=some x):x∈l:=by
  rw [nth_eq] at h;exact List.mem_of_getElem? h
theorem nth_split {α:Type} {l:List α} {i:Nat} {x y:α} (hi:nth l i=some x):∃ a b,l=a++x::b∧setNth l i y=a++y::b:=by
  induction l generalizing i with
  | nil=>simp [nth] at hi
  | cons z zs ih=>
    cases i with
    | zero=>simp [nth] at hi;subst hi;exact⟨[],zs,rfl,rfl⟩
    | succ i=>
      simp [nth] at hi
      obtain⟨a,b,h1,h2⟩:=ih hi
      exact⟨z::a,b,by simp [h1],by simp [setNth,h2]⟩
section
variable {w0 w w':World} {M:List Nat} {hs:List Res}
theorem St.res (st:St w0 M hs w) {i:Nat} {r:Res} (h:nth hs i=some r):r.holds w0.heap.size w:=st.here r (mem_nth h)
theorem St.lt (st:St w0 M hs w) {r:Res} (h:r∈hs) {k:Nat} (hk:k∈r.at?):k<w.heap.size:=by
  have hh:=st.here r h
  cases r with
  | blk b o=>simp [Res.at?] at hk;subst hk;exact(Array.getElem?_eq_some_iff.1 hh).1
  | own v e size n xs=>
    simp only [Res.at?,Option.mem_toList] at hk
    exact(World.ownsRow.lt hh k hk).2
  | tree S φ=>exact hh.2.1 k hk
theorem Chg.of_grownBy_none (h:w.grownBy w' none):Chg [] w w':=⟨h.os,h.tape,h.output,h.size,fun k hk hn=>h.block k hk (by simp)⟩
theorem Chg.of_grownByO {o:Option Nat} (h:w.grownBy w' o):Chg o.toList w w':=⟨h.os,h.tape,h.output,h.size,fun k hk hn=>h.block k hk (fun e=>hn (by simp [← e]))⟩
theorem Res.holds_chg {base:Nat} {r:Res} {C:List Nat} (h:r.holds base w) (hlt:∀ k∈r.at?,k<w.heap.size) (c:Chg C w w') (hne:∀ k∈r.at?,k∉C):r.holds base w':=by
  cases r with
  | blk b o=>exact(c.block b (Array.getElem?_eq_some_iff.1 h).1 (hne b (by simp [Res.at?]))).trans h
  | own v e size n xs=>
    have hg:w.grownBy w' none∨True:=.inr trivial
    cases hv:v.ownBlock with
    | none=>
      rcases h.2 with ⟨rfl,h0⟩|⟨g,cap,cur,rfl,_⟩
      · exact⟨h.1,.inl ⟨rfl,h0⟩⟩
      · simp [Value.ownBlock] at hv
    | some b=>
      have hb:w'.heap[b]?=w.heap[b]?:=c.block b (hlt b (by simp [Res.at?,hv])) (hne b (by simp [Res.at?,hv]))
      refine⟨h.1,h.2.imp id fun ⟨g,cap,cur,h1,h2,h3⟩=>⟨g,cap,cur,h1,h2,?_⟩⟩
      have hgb:g=b:=by rw [h1] at hv;simpa [Value.ownBlock] using hv
      subst hgb
      rw [hb];exact h3
  | tree S φ=>
    obtain⟨h1,h2,h3⟩:=h
    exact⟨h3 w w' c.size (fun k hk=>c.block k (h2 k hk) (hne k hk)) h1,fun k hk=>Nat.lt_of_lt_of_le (h2 k hk) c.size,h3⟩
theorem St.call0 (st:St w0 M hs w) (c:Chg [] w w'):St w0 M hs w':=
  ⟨st.chg.trans c.of_nil,st.nodup,fun r hr=>Res.holds_chg (st.here r hr) (fun k hk=>st.lt hr hk) c (by simp)⟩
theorem St.swap (st:St w0 M hs w) {i:Nat} {r r':Res} {C:List Nat} (hi:nth hs i=some r) (c:Chg C w w') (hC:∀ k∈C,k∈r.at?) (hm:∀ k∈C,k∈M∨w0.heap.size≤k)
    (hat:∀ k∈r'.at?,k∈r.at?∨w.heap.size≤k) (hr:r'.holds w0.heap.size w'):St w0 M (setNth hs i r') w':=by
  obtain⟨a,b,h1,h2⟩:=nth_split (y:=r') hi
  have hnd:=st.nodup
  rw [h1] at hnd
  unfold Apart at hnd
  rw [List.pairwise_append,List.pairwise_cons] at hnd
  obtain⟨n1,⟨n2,n3⟩,n4⟩:=hnd
  have mem:∀ x,x∈a∨x∈b→x∈hs∧∀ k∈x.at?,k∉r.at?:=by
    intro x hx
    rcases hx with hx|hx
    · exact⟨by rw [h1];simp [hx],fun k hk hk'=>n4 x hx r (.head _) k hk hk'⟩
    · exact⟨by rw [h1];simp [hx],fun k hk hk'=>n2 x hx k hk' hk⟩
  have new:∀ x,x∈a∨x∈b→∀ k∈r'.at?,k∉x.at?:=by
    intro x hx k hk hk'
    obtain⟨m1,m2⟩:=mem x hx
    rcases hat k hk with h|h
    · exact m2 k hk' h
    · exact absurd (st.lt m1 hk') (by omega)
  refine⟨st.chg.trans' c hm,?_,?_⟩
  · rw [h2]
    unfold Apart
    rw [List.pairwise_append,List.pairwise_cons]
    refine⟨n1,⟨fun x hx k hk=>new x (.inr hx) k hk,n3⟩,fun x hx y hy k hk hk'=>?_⟩
    rcases List.mem_cons.1 hy with rfl|hy
    · exact new x (.inl hx) k hk' hk
    · exact n4 x hx y (.tail _ hy) k hk hk'
  · rw [h2]
    intro x hx
    have key:∀ x,x∈a∨x∈b→x.holds w0.heap.size w':=fun x hx=>by
      obtain⟨m1,m2⟩:=mem x hx
      exact Res.holds_chg (st.here x m1) (fun k hk=>st.lt m1 hk) c (fun k hk hk'=>m2 k hk (hC k hk'))
    rcases List.mem_append.1 hx with h|h
    · exact key x (.inl h)
    · rcases List.mem_cons.1 h with rfl|h
      · exact hr
      · exact key x (.inr h)
theorem St.turn (st:St w0 M hs w) {i b:Nat} {r r':Res} (hi:nth hs i=some r) (hb:r.at?=[b]) (hb':r'.at?=[b]) (c:Chg [b] w w')
    (hm:b∈M∨w0.heap.size≤b) (hr:r'.holds w0.heap.size w'):St w0 M (setNth hs i r') w':=
  st.swap hi c (by simp [hb]) (by simpa using hm) (by simp [hb,hb']) hr
theorem St.pushR (st:St w0 M hs w) (c:Chg [] w w') {r:Res} (hr:r.holds w0.heap.size w') (hat:∀ k∈r.at?,w.heap.size≤k):St w0 M (r::hs) w':=by
  have st':=st.call0 c
  refine⟨st'.chg,List.pairwise_cons.2 ⟨fun x hx k hk hk'=>absurd (st.lt hx hk') (by have:=hat k hk;omega),st'.nodup⟩,fun x hx=>?_⟩
  rcases List.mem_cons.1 hx with rfl|h
  · exact hr
  · exact st'.here x h
theorem St.push (st:St w0 M hs w) (c:Chg [] w w') {r:Res} (hr:r.holds w0.heap.size w') (hat:r.at?=[w.heap.size]):St w0 M (r::hs) w':=
  st.pushR c hr (by simp [hat])
theorem St.swapPush (st:St w0 M hs w) {i:Nat} {r r' q:Res} {C:List Nat} (hi:nth hs i=some r) (c:Chg C w w') (hC:∀ k∈C,k∈r.at?) (hm:∀ k∈C,k∈M∨w0.heap.size≤k)
    (hat:∀ k∈r'.at?,k∈r.at?) (hr:r'.holds w0.heap.size w') (hq:q.holds w0.heap.size w') (hqa:∀ k∈q.at?,w.heap.size≤k):St w0 M (q::setNth hs i r') w':=by
  have st':=st.swap hi c hC hm (fun k hk=>.inl (hat k hk)) hr
  obtain⟨a,b,h1,h2⟩:=nth_split (y:=r') hi
  refine⟨st'.chg,List.pairwise_cons.2 ⟨fun x hx k hk hk'=>?_,st'.nodup⟩,fun x hx=>?_⟩
  · have:∃ y∈hs,k∈y.at?:=by
      rw [h2] at hx
      rcases List.mem_append.1 hx with h|h
      · exact⟨x,by rw [h1];simp [h],hk'⟩
      · rcases List.mem_cons.1 h with rfl|h
        · exact⟨r,mem_nth hi,hat k hk'⟩
        · exact⟨x,by rw [h1];simp [h],hk'⟩
    obtain⟨y,hy,hky⟩:=this
    exact absurd (st.lt hy hky) (by have:=hqa k hk;omega)
  · rcases List.mem_cons.1 hx with rfl|h
    · exact hq
    · exact st'.here x h
theorem St.of1 {b:Nat} {o:Obj} (M:List Nat) (h:w.heap[b]?=some o):St w M [.blk b o] w:=
  ⟨Chg.refl M w,List.pairwise_singleton _ _,by simpa [Res.holds] using h⟩
theorem St.of2 {b c:Nat} {o p:Obj} (M:List Nat) (h:w.heap[b]?=some o) (h':w.heap[c]?=some p) (hne:b≠c):St w M [.blk b o,.blk c p] w:=
  ⟨Chg.refl M w,List.pairwise_cons.2 ⟨by simp [Res.at?,hne],List.pairwise_singleton _ _⟩,by simp [Res.holds,h,h']⟩
theorem St.drop (st:St w0 M hs w) {hs':List Res} (h:hs'.Sublist hs):St w0 M hs' w:=
  ⟨st.chg,List.Pairwise.sublist h st.nodup,fun r hr=>st.here r (h.subset hr)⟩
theorem St.perm (st:St w0 M hs w) {hs':List Res} (h:hs.Perm hs'):St w0 M hs' w:=
  ⟨st.chg,(h.pairwise_iff (fun {x y} hxy k hk hk'=>hxy k hk' hk)).1 st.nodup,fun r hr=>st.here r (h.mem_iff.2 hr)⟩
theorem St.join {r s:Res} (st:St w0 M (r::s::hs) w) {q:Res} (hat:∀ k∈q.at?,k∈r.at?∨k∈s.at?) (hq:q.holds w0.heap.size w):St w0 M (q::hs) w:=by
  have hnd:=st.nodup
  unfold Apart at hnd
  rw [List.pairwise_cons,List.pairwise_cons] at hnd
  obtain⟨h1,h2,h3⟩:=hnd
  refine⟨st.chg,List.pairwise_cons.2 ⟨fun x hx k hk hk'=>?_,h3⟩,fun x hx=>?_⟩
  · rcases hat k hk with h|h
    · exact h1 x (.tail _ hx) k h hk'
    · exact h2 x hx k h hk'
  · rcases List.mem_cons.1 hx with rfl|h
    · exact hq
    · exact st.here x (.tail _ (.tail _ h))
theorem St.turn0 {r:Res} (st:St w0 M (r::hs) w) {q:Res} (hat:∀ k∈q.at?,k∈r.at?) (hq:q.holds w0.heap.size w):St w0 M (q::hs) w:=by
  have hnd:=st.nodup
  unfold Apart at hnd
  rw [List.pairwise_cons] at hnd
  refine⟨st.chg,List.pairwise_cons.2 ⟨fun x hx k hk hk'=>hnd.1 x hx k (hat k hk) hk',hnd.2⟩,fun x hx=>?_⟩
  rcases List.mem_cons.1 hx with rfl|h
  · exact hq
  · exact st.here x (.tail _ h)
end
end Sx
theorem Sx.dn:(∀ (p:Prop) [Decidable p],(decide p=true)=p)∧(∀ (p:Prop) [Decidable p],(decide p=false)=¬p)∧(∀ b:Bool,((!b)=true)=(b=false))∧(∀ b:Bool,((!b)=false)=(b=true))∧
    (∀ b:Bool,(¬b=true)=(b=false))∧(∀ b:Bool,(¬b=false)=(b=true))∧(∀ a b:Int,(¬a<b)=(b≤a))∧(∀ a b:Int,(¬a≤b)=(b<a))∧(∀ a b:Nat,(¬a<b)=(b≤a))∧(∀ a b:Nat,(¬a≤b)=(b<a))∧
    ((!true)=false)∧((!false)=true)∧((true=false)=False)∧((false=true)=False):=by
  refine⟨fun p _=>by simp,fun p _=>by simp,fun b=>by simp,fun b=>by simp,fun b=>by simp,fun b=>by simp,fun a b=>propext Int.not_lt,fun a b=>propext Int.not_le,fun a b=>propext Nat.not_lt,fun a b=>propext Nat.not_le,rfl,rfl,by simp,by simp⟩
theorem Sx.sl0 {α:Type}:List.Sublist ([]:List α) []:=.slnil
theorem Sx.sl1 {α:Type} {a:α} {l m:List α} (h:List.Sublist l m):List.Sublist (a::l) (a::m):=.cons_cons a h
theorem Sx.sl2 {α:Type} {a:α} {l m:List α} (h:List.Sublist l m):List.Sublist l (a::m):=.cons a h
