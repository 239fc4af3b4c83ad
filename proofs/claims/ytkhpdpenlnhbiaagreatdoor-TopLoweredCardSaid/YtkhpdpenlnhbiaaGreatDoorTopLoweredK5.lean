/- A part of the proof: contracts of functions and plain laws; each theorem says its own conditions. -/
import Derived.Test.YtkhpdpenlnhbiaaGreatDoorTopLoweredK3
set_option linter.unusedVariables false
set_option linter.unusedSimpArgs false
/- The engine,eighteenth part: trees whose rows lie each in a block of its own. -/
namespace Sx
open Go Go.RowKit
def obk:Option Addr→List Nat|some a=>[a.block]|none=>[]
theorem obk_own {oa:Option Addr} {n cap:Nat}:(Value.slice oa n cap).ownBlock.toList=obk oa:=by cases oa <;> rfl
theorem owns_kept {w w':World} {base E size n:Nat} {oa:Option Addr} {m cap:Nat} {xs:List Value} (h:w.ownsRow base E size (.slice oa m cap) n xs) (hk:∀ b∈obk oa,w'.heap[b]?=w.heap[b]?):w'.ownsRow base E size (.slice oa m cap) n xs:=by
  refine⟨h.1,h.2.imp id fun ⟨g,c,cur,e,hb,hc,hr⟩=>⟨g,c,cur,e,hb,?_,hr⟩⟩
  simp only [Value.slice.injEq] at e
  rw [hk g (by rw [e.1];simp [obk])];exact hc
theorem owns_lt {w:World} {base E size n:Nat} {oa:Option Addr} {m cap:Nat} {xs:List Value} (h:w.ownsRow base E size (.slice oa m cap) n xs):∀ b∈obk oa,base≤b∧b<w.heap.size:=by
  intro b hb
  rw [← obk_own (n:=m) (cap:=cap)] at hb
  exact World.ownsRow.lt h b (by simpa using hb)
theorem owns_mono {w:World} {base base' E size n:Nat} {v:Value} {xs:List Value} (h:w.ownsRow base E size v n xs) (hb:∀ b,v.ownBlock=some b→base'≤b):w.ownsRow base' E size v n xs:=
  ⟨h.1,h.2.imp id fun ⟨g,c,cur,e,hg,hr⟩=>⟨g,c,cur,e,hb g (by rw [e];rfl),hr⟩⟩
section
variable (tE tS tD tT:Nat)
mutual
def ExS (w:World):Ex→List Value→List Nat→Prop
  | .mk k op wd nm kids a,l,S=>∃ oa cap xs S',l=[.int .u8 k,.int .u8 op,.int .i64 wd,str nm,.slice oa kids.length cap,.int .i64 a]∧w.ownsRow 0 tE 6 (.slice oa kids.length cap) kids.length xs∧S=obk oa++S'∧ExSs w kids xs S'
termination_by structural e=>e
def ExSs (w:World):List Ex→List Value→List Nat→Prop
  | [],xs,S=>xs=[]∧S=[]
  | e::r,xs,S=>∃ v S1 xr Sr,xs=v++xr∧S=S1++Sr∧ExS w e v S1∧ExSs w r xr Sr
termination_by structural l=>l
end
def ExR (w:World) (oa:Option Addr) (cap:Nat) (es:List Ex) (S:List Nat):Prop:=∃ xs S',w.ownsRow 0 tE 6 (.slice oa es.length cap) es.length xs∧S=obk oa++S'∧ExSs tE w es xs S'
mutual
def SmS (w:World):Sm→List Value→List Nat→Prop
  | .mk k nm other e body els a,l,S=>∃ oe ce ob cb ol cl Se xb Sb xl Sl,l=[.int .u8 k,str nm,str other,.slice oe e.length ce,.slice ob body.length cb,.slice ol els.length cl,.int .i64 a]∧ExR tE w oe ce e Se∧
      w.ownsRow 0 tS 7 (.slice ob body.length cb) body.length xb∧SmSs w body xb Sb∧w.ownsRow 0 tS 7 (.slice ol els.length cl) els.length xl∧SmSs w els xl Sl∧S=Se++((obk ob++Sb)++(obk ol++Sl))
termination_by structural s=>s
def SmSs (w:World):List Sm→List Value→List Nat→Prop
  | [],xs,S=>xs=[]∧S=[]
  | s::r,xs,S=>∃ v S1 xr Sr,xs=v++xr∧S=S1++Sr∧SmS w s v S1∧SmSs w r xr Sr
termination_by structural l=>l
end
def SmR (w:World) (oa:Option Addr) (cap:Nat) (ss:List Sm) (S:List Nat):Prop:=∃ xs S',w.ownsRow 0 tS 7 (.slice oa ss.length cap) ss.length xs∧S=obk oa++S'∧SmSs tE tS w ss xs S'
def DcR (w:World) (oa:Option Addr) (cap:Nat) (ds:List Dc) (S:List Nat):Prop:=w.ownsRow 0 tD 3 (.slice oa ds.length cap) ds.length (ds.flatMap dcL)∧S=obk oa
def ThS (w:World) (t:Th) (l:List Value) (S:List Nat):Prop:=∃ ol cl ob cb Sl Sb,l=[str t.nm,.slice ol t.locals.length cl,.slice ob t.body.length cb,.int .i64 t.a]∧DcR tD w ol cl t.locals Sl∧SmR tE tS w ob cb t.body Sb∧S=Sl++Sb
def ThSs (w:World):List Th→List Value→List Nat→Prop
  | [],xs,S=>xs=[]∧S=[]
  | t::r,xs,S=>∃ v S1 xr Sr,xs=v++xr∧S=S1++Sr∧ThS tE tS tD w t v S1∧ThSs w r xr Sr
def ThR (w:World) (oa:Option Addr) (cap:Nat) (ts:List Th) (S:List Nat):Prop:=∃ xs S',w.ownsRow 0 tT 4 (.slice oa ts.length cap) ts.length xs∧S=obk oa++S'∧ThSs tE tS tD w ts xs S'
def PgS (w:World) (p:Pg) (l:List Value) (S:List Nat):Prop:=∃ os cs ol cl ot ct Ss Sl St,l=[.slice os p.shared.length cs,.slice ol p.locks.length cl,.slice ot p.threads.length ct]∧DcR tD w os cs p.shared Ss∧DcR tD w ol cl p.locks Sl∧ThR tE tS tD tT w ot ct p.threads St∧S=Ss++(Sl++St)
end
section
variable {tE tS tD tT:Nat} {w w':World}
theorem ExS_iff {e:Ex} {l:List Value} {S:List Nat}:ExS tE w e l S↔∃ oa cap,l=[.int .u8 e.k,.int .u8 e.op,.int .i64 e.wd,str e.nm,.slice oa e.kids.length cap,.int .i64 e.a]∧ExR tE w oa cap e.kids S:=by
  cases e with
  | mk k op wd nm kids a=>
    rw [ExS]
    constructor
    · rintro ⟨oa,cap,xs,S',h1,h2,h3,h4⟩
      exact⟨oa,cap,h1,xs,S',h2,h3,h4⟩
    · rintro ⟨oa,cap,h1,xs,S',h2,h3,h4⟩
      exact⟨oa,cap,xs,S',h1,h2,h3,h4⟩
theorem SmS_iff {s:Sm} {l:List Value} {S:List Nat}:SmS tE tS w s l S↔∃ oe ce ob cb ol cl Se Sb Sl,l=[.int .u8 s.k,str s.nm,str s.other,.slice oe s.e.length ce,.slice ob s.body.length cb,.slice ol s.els.length cl,.int .i64 s.a]∧
    ExR tE w oe ce s.e Se∧SmR tE tS w ob cb s.body Sb∧SmR tE tS w ol cl s.els Sl∧S=Se++(Sb++Sl):=by
  cases s with
  | mk k nm other e body els a=>
    rw [SmS]
    constructor
    · rintro ⟨oe,ce,ob,cb,ol,cl,Se,xb,Sb,xl,Sl,h1,h2,h3,h4,h5,h6,h7⟩
      exact⟨oe,ce,ob,cb,ol,cl,Se,_,_,h1,h2,⟨xb,Sb,h3,rfl,h4⟩,⟨xl,Sl,h5,rfl,h6⟩,h7⟩
    · rintro ⟨oe,ce,ob,cb,ol,cl,Se,_,_,h1,h2,⟨xb,Sb,h3,rfl,h4⟩,⟨xl,Sl,h5,rfl,h6⟩,h7⟩
      exact⟨oe,ce,ob,cb,ol,cl,Se,xb,Sb,xl,Sl,h1,h2,h3,h4,h5,h6,h7⟩
theorem ExS.len {e:Ex} {l:List Value} {S:List Nat} (h:ExS tE w e l S):l.length=6:=by obtain⟨oa,cap,rfl,_⟩:=ExS_iff.1 h;rfl
theorem SmS.len {s:Sm} {l:List Value} {S:List Nat} (h:SmS tE tS w s l S):l.length=7:=by obtain⟨oe,ce,ob,cb,ol,cl,Se,Sb,Sl,rfl,_⟩:=SmS_iff.1 h;rfl
theorem ThS.len {t:Th} {l:List Value} {S:List Nat} (h:ThS tE tS tD w t l S):l.length=4:=by obtain⟨ol,cl,ob,cb,Sl,Sb,rfl,_⟩:=h;rfl
mutual
theorem ExS.kept:∀ {e:Ex} {l:List Value} {S:List Nat},ExS tE w e l S→(∀ b∈S,w'.heap[b]?=w.heap[b]?)→ExS tE w' e l S
  | .mk k op wd nm kids a,l,S,h,hk=>by
    rw [ExS] at h ⊢
    obtain⟨oa,cap,xs,S',h1,h2,rfl,h4⟩:=h
    exact⟨oa,cap,xs,S',h1,owns_kept h2 (fun b hb=>hk b (List.mem_append.2 (.inl hb))),rfl,ExSs.kept h4 (fun b hb=>hk b (List.mem_append.2 (.inr hb)))⟩
termination_by structural e=>e
theorem ExSs.kept:∀ {es:List Ex} {xs:List Value} {S:List Nat},ExSs tE w es xs S→(∀ b∈S,w'.heap[b]?=w.heap[b]?)→ExSs tE w' es xs S
  | [],xs,S,h,hk=>by rw [ExSs] at h ⊢;exact h
  | e::r,xs,S,h,hk=>by
    rw [ExSs] at h ⊢
    obtain⟨v,S1,xr,Sr,rfl,rfl,h1,h2⟩:=h
    exact⟨v,S1,xr,Sr,rfl,rfl,ExS.kept h1 (fun b hb=>hk b (List.mem_append.2 (.inl hb))),ExSs.kept h2 (fun b hb=>hk b (List.mem_append.2 (.inr hb)))⟩
termination_by structural es=>es
end
theorem ExR.kept {oa:Option Addr} {cap:Nat} {es:List Ex} {S:List Nat} (h:ExR tE w oa cap es S) (hk:∀ b∈S,w'.heap[b]?=w.heap[b]?):ExR tE w' oa cap es S:=by
  obtain⟨xs,S',h1,rfl,h3⟩:=h
  exact⟨xs,S',owns_kept h1 (fun b hb=>hk b (List.mem_append.2 (.inl hb))),rfl,ExSs.kept h3 (fun b hb=>hk b (List.mem_append.2 (.inr hb)))⟩
mutual
theorem SmS.kept:∀ {e:Sm} {l:List Value} {S:List Nat},SmS tE tS w e l S→(∀ b∈S,w'.heap[b]?=w.heap[b]?)→SmS tE tS w' e l S
  | .mk k nm other e body els a,l,S,h,hk=>by
    rw [SmS] at h ⊢
    obtain⟨oe,ce,ob,cb,ol,cl,Se,xb,Sb,xl,Sl,h1,h2,h3,h4,h5,h6,rfl⟩:=h
    exact⟨oe,ce,ob,cb,ol,cl,Se,xb,Sb,xl,Sl,h1,h2.kept (fun b hb=>hk b (by simp [hb])),owns_kept h3 (fun b hb=>hk b (by simp [hb])),SmSs.kept h4 (fun b hb=>hk b (by simp [hb])),
      owns_kept h5 (fun b hb=>hk b (by simp [hb])),SmSs.kept h6 (fun b hb=>hk b (by simp [hb])),rfl⟩
termination_by structural e=>e
theorem SmSs.kept:∀ {es:List Sm} {xs:List Value} {S:List Nat},SmSs tE tS w es xs S→(∀ b∈S,w'.heap[b]?=w.heap[b]?)→SmSs tE tS w' es xs S
  | [],xs,S,h,hk=>by rw [SmSs] at h ⊢;exact h
  | e::r,xs,S,h,hk=>by
    rw [SmSs] at h ⊢
    obtain⟨v,S1,xr,Sr,rfl,rfl,h1,h2⟩:=h
    exact⟨v,S1,xr,Sr,rfl,rfl,SmS.kept h1 (fun b hb=>hk b (List.mem_append.2 (.inl hb))),SmSs.kept h2 (fun b hb=>hk b (List.mem_append.2 (.inr hb)))⟩
termination_by structural es=>es
end
theorem SmR.kept {oa:Option Addr} {cap:Nat} {es:List Sm} {S:List Nat} (h:SmR tE tS w oa cap es S) (hk:∀ b∈S,w'.heap[b]?=w.heap[b]?):SmR tE tS w' oa cap es S:=by
  obtain⟨xs,S',h1,rfl,h3⟩:=h
  exact⟨xs,S',owns_kept h1 (fun b hb=>hk b (List.mem_append.2 (.inl hb))),rfl,SmSs.kept h3 (fun b hb=>hk b (List.mem_append.2 (.inr hb)))⟩
theorem DcR.kept {oa:Option Addr} {cap:Nat} {es:List Dc} {S:List Nat} (h:DcR tD w oa cap es S) (hk:∀ b∈S,w'.heap[b]?=w.heap[b]?):DcR tD w' oa cap es S:=by
  obtain⟨h1,rfl⟩:=h
  exact⟨owns_kept h1 hk,rfl⟩
theorem ThS.kept {t:Th} {l:List Value} {S:List Nat} (h:ThS tE tS tD w t l S) (hk:∀ b∈S,w'.heap[b]?=w.heap[b]?):ThS tE tS tD w' t l S:=by
  obtain⟨ol,cl,ob,cb,Sl,Sb,h1,h2,h3,rfl⟩:=h
  exact⟨ol,cl,ob,cb,Sl,Sb,h1,h2.kept (fun b hb=>hk b (List.mem_append.2 (.inl hb))),h3.kept (fun b hb=>hk b (List.mem_append.2 (.inr hb))),rfl⟩
theorem ThSs.kept:∀ {es:List Th} {xs:List Value} {S:List Nat},ThSs tE tS tD w es xs S→(∀ b∈S,w'.heap[b]?=w.heap[b]?)→ThSs tE tS tD w' es xs S
  | [],xs,S,h,hk=>by rw [ThSs] at h ⊢;exact h
  | e::r,xs,S,h,hk=>by
    rw [ThSs] at h ⊢
    obtain⟨v,S1,xr,Sr,rfl,rfl,h1,h2⟩:=h
    exact⟨v,S1,xr,Sr,rfl,rfl,h1.kept (fun b hb=>hk b (List.mem_append.2 (.inl hb))),ThSs.kept h2 (fun b hb=>hk b (List.mem_append.2 (.inr hb)))⟩
theorem ThR.kept {oa:Option Addr} {cap:Nat} {es:List Th} {S:List Nat} (h:ThR tE tS tD tT w oa cap es S) (hk:∀ b∈S,w'.heap[b]?=w.heap[b]?):ThR tE tS tD tT w' oa cap es S:=by
  obtain⟨xs,S',h1,rfl,h3⟩:=h
  exact⟨xs,S',owns_kept h1 (fun b hb=>hk b (List.mem_append.2 (.inl hb))),rfl,ThSs.kept h3 (fun b hb=>hk b (List.mem_append.2 (.inr hb)))⟩
theorem PgS.kept {p:Pg} {l:List Value} {S:List Nat} (h:PgS tE tS tD tT w p l S) (hk:∀ b∈S,w'.heap[b]?=w.heap[b]?):PgS tE tS tD tT w' p l S:=by
  obtain⟨os,cs,ol,cl,ot,ct,Ss,Sl,St,h1,h2,h3,h4,rfl⟩:=h
  exact⟨os,cs,ol,cl,ot,ct,Ss,Sl,St,h1,h2.kept (fun b hb=>hk b (by simp [hb])),h3.kept (fun b hb=>hk b (by simp [hb])),h4.kept (fun b hb=>hk b (by simp [hb])),rfl⟩
mutual
theorem ExS.lt:∀ {e:Ex} {l:List Value} {S:List Nat},ExS tE w e l S→∀ b∈S,b<w.heap.size
  | .mk k op wd nm kids a,l,S,h,b,hb=>by
    rw [ExS] at h
    obtain⟨oa,cap,xs,S',h1,h2,rfl,h4⟩:=h
    rcases List.mem_append.1 hb with hb|hb
    · exact(owns_lt h2 b hb).2
    · exact ExSs.lt h4 b hb
termination_by structural e=>e
theorem ExSs.lt:∀ {es:List Ex} {xs:List Value} {S:List Nat},ExSs tE w es xs S→∀ b∈S,b<w.heap.size
  | [],xs,S,h,b,hb=>by rw [ExSs] at h;rw [h.2] at hb;cases hb
  | e::r,xs,S,h,b,hb=>by
    rw [ExSs] at h
    obtain⟨v,S1,xr,Sr,rfl,rfl,h1,h2⟩:=h
    rcases List.mem_append.1 hb with hb|hb
    · exact ExS.lt h1 b hb
    · exact ExSs.lt h2 b hb
termination_by structural es=>es
end
theorem ExR.lt {oa:Option Addr} {cap:Nat} {es:List Ex} {S:List Nat} (h:ExR tE w oa cap es S):∀ b∈S,b<w.heap.size:=by
  obtain⟨xs,S',h1,rfl,h3⟩:=h
  intro b hb
  rcases List.mem_append.1 hb with hb|hb
  · exact(owns_lt h1 b hb).2
  · exact ExSs.lt h3 b hb
mutual
theorem SmS.lt:∀ {e:Sm} {l:List Value} {S:List Nat},SmS tE tS w e l S→∀ b∈S,b<w.heap.size
  | .mk k nm other e body els a,l,S,h,b,hb=>by
    rw [SmS] at h
    obtain⟨oe,ce,ob,cb,ol,cl,Se,xb,Sb,xl,Sl,h1,h2,h3,h4,h5,h6,rfl⟩:=h
    simp only [List.mem_append] at hb
    rcases hb with hb|(hb|hb)|(hb|hb)
    · exact h2.lt b hb
    · exact(owns_lt h3 b hb).2
    · exact SmSs.lt h4 b hb
    · exact(owns_lt h5 b hb).2
    · exact SmSs.lt h6 b hb
termination_by structural e=>e
theorem SmSs.lt:∀ {es:List Sm} {xs:List Value} {S:List Nat},SmSs tE tS w es xs S→∀ b∈S,b<w.heap.size
  | [],xs,S,h,b,hb=>by rw [SmSs] at h;rw [h.2] at hb;cases hb
  | e::r,xs,S,h,b,hb=>by
    rw [SmSs] at h
    obtain⟨v,S1,xr,Sr,rfl,rfl,h1,h2⟩:=h
    rcases List.mem_append.1 hb with hb|hb
    · exact SmS.lt h1 b hb
    · exact SmSs.lt h2 b hb
termination_by structural es=>es
end
theorem SmR.lt {oa:Option Addr} {cap:Nat} {es:List Sm} {S:List Nat} (h:SmR tE tS w oa cap es S):∀ b∈S,b<w.heap.size:=by
  obtain⟨xs,S',h1,rfl,h3⟩:=h
  intro b hb
  rcases List.mem_append.1 hb with hb|hb
  · exact(owns_lt h1 b hb).2
  · exact SmSs.lt h3 b hb
theorem DcR.lt {oa:Option Addr} {cap:Nat} {es:List Dc} {S:List Nat} (h:DcR tD w oa cap es S):∀ b∈S,b<w.heap.size:=by
  obtain⟨h1,rfl⟩:=h
  exact fun b hb=>(owns_lt h1 b hb).2
theorem ThS.lt {t:Th} {l:List Value} {S:List Nat} (h:ThS tE tS tD w t l S):∀ b∈S,b<w.heap.size:=by
  obtain⟨ol,cl,ob,cb,Sl,Sb,h1,h2,h3,rfl⟩:=h
  intro b hb
  rcases List.mem_append.1 hb with hb|hb
  · exact h2.lt b hb
  · exact h3.lt b hb
theorem ThSs.lt:∀ {es:List Th} {xs:List Value} {S:List Nat},ThSs tE tS tD w es xs S→∀ b∈S,b<w.heap.size
  | [],xs,S,h,b,hb=>by rw [ThSs] at h;rw [h.2] at hb;cases hb
  | e::r,xs,S,h,b,hb=>by
    rw [ThSs] at h
    obtain⟨v,S1,xr,Sr,rfl,rfl,h1,h2⟩:=h
    rcases List.mem_append.1 hb with hb|hb
    · exact h1.lt b hb
    · exact ThSs.lt h2 b hb
theorem ThR.lt {oa:Option Addr} {cap:Nat} {es:List Th} {S:List Nat} (h:ThR tE tS tD tT w oa cap es S):∀ b∈S,b<w.heap.size:=by
  obtain⟨xs,S',h1,rfl,h3⟩:=h
  intro b hb
  rcases List.mem_append.1 hb with hb|hb
  · exact(owns_lt h1 b hb).2
  · exact ThSs.lt h3 b hb
theorem PgS.lt {p:Pg} {l:List Value} {S:List Nat} (h:PgS tE tS tD tT w p l S):∀ b∈S,b<w.heap.size:=by
  obtain⟨os,cs,ol,cl,ot,ct,Ss,Sl,St,h1,h2,h3,h4,rfl⟩:=h
  intro b hb
  simp only [List.mem_append] at hb
  rcases hb with hb|hb|hb
  · exact h2.lt b hb
  · exact h3.lt b hb
  · exact h4.lt b hb
theorem ExSs_app:∀ {a b:List Ex} {xs:List Value} {S:List Nat},ExSs tE w (a++b) xs S↔∃ xa xb Sa Sb,xs=xa++xb∧S=Sa++Sb∧ExSs tE w a xa Sa∧ExSs tE w b xb Sb
  | [],b,xs,S=>by
    simp only [List.nil_append,ExSs]
    constructor
    · intro h;exact⟨[],xs,[],S,rfl,rfl,⟨rfl,rfl⟩,h⟩
    · rintro ⟨xa,xb,Sa,Sb,rfl,rfl,⟨rfl,rfl⟩,h⟩;exact h
  | e::r,b,xs,S=>by
    simp only [List.cons_append,ExSs]
    constructor
    · rintro ⟨v,S1,xr,Sr,rfl,rfl,h1,h2⟩
      obtain⟨xa,xb,Sa,Sb,rfl,rfl,h3,h4⟩:=ExSs_app.1 h2
      exact⟨v++xa,xb,S1++Sa,Sb,by simp,by simp,⟨v,S1,xa,Sa,rfl,rfl,h1,h3⟩,h4⟩
    · rintro ⟨_,xb,_,Sb,rfl,rfl,⟨v,S1,xa,Sa,rfl,rfl,h1,h3⟩,h4⟩
      exact⟨v,S1,xa++xb,Sa++Sb,by simp,by simp,h1,ExSs_app.2 ⟨xa,xb,Sa,Sb,rfl,rfl,h3,h4⟩⟩
theorem SmSs_app:∀ {a b:List Sm} {xs:List Value} {S:List Nat},SmSs tE tS w (a++b) xs S↔∃ xa xb Sa Sb,xs=xa++xb∧S=Sa++Sb∧SmSs tE tS w a xa Sa∧SmSs tE tS w b xb Sb
  | [],b,xs,S=>by
    simp only [List.nil_append,SmSs]
    constructor
    · intro h;exact⟨[],xs,[],S,rfl,rfl,⟨rfl,rfl⟩,h⟩
    · rintro ⟨xa,xb,Sa,Sb,rfl,rfl,⟨rfl,rfl⟩,h⟩;exact h
  | e::r,b,xs,S=>by
    simp only [List.cons_append,SmSs]
    constructor
    · rintro ⟨v,S1,xr,Sr,rfl,rfl,h1,h2⟩
      obtain⟨xa,xb,Sa,Sb,rfl,rfl,h3,h4⟩:=SmSs_app.1 h2
      exact⟨v++xa,xb,S1++Sa,Sb,by simp,by simp,⟨v,S1,xa,Sa,rfl,rfl,h1,h3⟩,h4⟩
    · rintro ⟨_,xb,_,Sb,rfl,rfl,⟨v,S1,xa,Sa,rfl,rfl,h1,h3⟩,h4⟩
      exact⟨v,S1,xa++xb,Sa++Sb,by simp,by simp,h1,SmSs_app.2 ⟨xa,xb,Sa,Sb,rfl,rfl,h3,h4⟩⟩
theorem ThSs_app:∀ {a b:List Th} {xs:List Value} {S:List Nat},ThSs tE tS tD w (a++b) xs S↔∃ xa xb Sa Sb,xs=xa++xb∧S=Sa++Sb∧ThSs tE tS tD w a xa Sa∧ThSs tE tS tD w b xb Sb
  | [],b,xs,S=>by
    simp only [List.nil_append,ThSs]
    constructor
    · intro h;exact⟨[],xs,[],S,rfl,rfl,⟨rfl,rfl⟩,h⟩
    · rintro ⟨xa,xb,Sa,Sb,rfl,rfl,⟨rfl,rfl⟩,h⟩;exact h
  | e::r,b,xs,S=>by
    simp only [List.cons_append,ThSs]
    constructor
    · rintro ⟨v,S1,xr,Sr,rfl,rfl,h1,h2⟩
      obtain⟨xa,xb,Sa,Sb,rfl,rfl,h3,h4⟩:=ThSs_app.1 h2
      exact⟨v++xa,xb,S1++Sa,Sb,by simp,by simp,⟨v,S1,xa,Sa,rfl,rfl,h1,h3⟩,h4⟩
    · rintro ⟨_,xb,_,Sb,rfl,rfl,⟨v,S1,xa,Sa,rfl,rfl,h1,h3⟩,h4⟩
      exact⟨v,S1,xa++xb,Sa++Sb,by simp,by simp,h1,ThSs_app.2 ⟨xa,xb,Sa,Sb,rfl,rfl,h3,h4⟩⟩
theorem ExSs_one {e:Ex} {xs:List Value} {S:List Nat}:ExSs tE w [e] xs S↔ExS tE w e xs S:=by
  simp only [ExSs]
  constructor
  · rintro ⟨v,S1,xr,Sr,rfl,rfl,h1,rfl,rfl⟩;simpa using h1
  · intro h;exact⟨xs,S,[],[],by simp,by simp,h,rfl,rfl⟩
theorem SmSs_one {e:Sm} {xs:List Value} {S:List Nat}:SmSs tE tS w [e] xs S↔SmS tE tS w e xs S:=by
  simp only [SmSs]
  constructor
  · rintro ⟨v,S1,xr,Sr,rfl,rfl,h1,rfl,rfl⟩;simpa using h1
  · intro h;exact⟨xs,S,[],[],by simp,by simp,h,rfl,rfl⟩
theorem ThSs_one {e:Th} {xs:List Value} {S:List Nat}:ThSs tE tS tD w [e] xs S↔ThS tE tS tD w e xs S:=by
  simp only [ThSs]
  constructor
  · rintro ⟨v,S1,xr,Sr,rfl,rfl,h1,rfl,rfl⟩;simpa using h1
  · intro h;exact⟨xs,S,[],[],by simp,by simp,h,rfl,rfl⟩
theorem ExSs.snoc {a:List Ex} {e:Ex} {xs l:List Value} {S S1:List Nat} (h:ExSs tE w a xs S) (h1:ExS tE w e l S1):ExSs tE w (a++[e]) (xs++l) (S++S1):=ExSs_app.2 ⟨xs,l,S,S1,rfl,rfl,h,ExSs_one.2 h1⟩
theorem SmSs.snoc {a:List Sm} {e:Sm} {xs l:List Value} {S S1:List Nat} (h:SmSs tE tS w a xs S) (h1:SmS tE tS w e l S1):SmSs tE tS w (a++[e]) (xs++l) (S++S1):=SmSs_app.2 ⟨xs,l,S,S1,rfl,rfl,h,SmSs_one.2 h1⟩
theorem ThSs.snoc {a:List Th} {e:Th} {xs l:List Value} {S S1:List Nat} (h:ThSs tE tS tD w a xs S) (h1:ThS tE tS tD w e l S1):ThSs tE tS tD w (a++[e]) (xs++l) (S++S1):=ThSs_app.2 ⟨xs,l,S,S1,rfl,rfl,h,ThSs_one.2 h1⟩
theorem ThSs.get:∀ {es:List Th} {xs:List Value} {S:List Nat} {j:Nat} {e:Th},ThSs tE tS tD w es xs S→es[j]?=some e→∃ Sj,ThS tE tS tD w e ((xs.drop (j*4)).take 4) Sj∧∀ b∈Sj,b∈S
  | [],xs,S,j,e,h,hj=>by simp at hj
  | x::r,xs,S,0,e,h,hj=>by
    rw [ThSs] at h
    obtain⟨v,S1,xr,Sr,rfl,rfl,h1,h2⟩:=h
    simp only [List.getElem?_cons_zero,Option.some.injEq] at hj
    subst hj
    refine⟨S1,?_,fun b hb=>List.mem_append.2 (.inl hb)⟩
    simpa [List.take_append_of_le_length,List.take_of_length_le,h1.len] using h1
  | x::r,xs,S,j+1,e,h,hj=>by
    rw [ThSs] at h
    obtain⟨v,S1,xr,Sr,rfl,rfl,h1,h2⟩:=h
    obtain⟨Sj,h3,h4⟩:=ThSs.get h2 (by simpa using hj)
    refine⟨Sj,?_,fun b hb=>List.mem_append.2 (.inr (h4 b hb))⟩
    rw [show (j+1)*4=v.length+j*4 by rw [h1.len];omega,← List.drop_drop,List.drop_left]
    exact h3
theorem rowC_own {oa:Option Addr} {n cap E sz:Nat} {xs:List Value} {S:Nat→Prop} (h:w.ownsRow 0 E sz (.slice oa n cap) n xs) (hS:∀ b∈obk oa,S b):RowC w S sz oa n (fun j=>(xs.drop (j*sz)).take sz):=by
  rcases Nat.eq_zero_or_pos n with h0|h0
  · exact .inl h0
  · right
    obtain⟨g,c,e,-⟩:=own_form h h0
    simp only [Value.slice.injEq] at e
    obtain⟨rfl,-,rfl⟩:=e
    refine⟨g,0,rfl,hS g (by simp [obk]),(owns_lt h g (by simp [obk])).2,fun j hj=>⟨?_,fun i v hi=>?_⟩⟩
    · have h1:xs.length=n*sz:=h.1
      have h2:j*sz+sz≤n*sz:=by rw [← Nat.succ_mul];exact Nat.mul_le_mul_right _ hj
      simp;omega
    · rw [List.getElem?_take] at hi
      split at hi
      · rw [List.getElem?_drop] at hi
        rw [Nat.zero_add]
        exact own_cell h hi
      · cases hi
mutual
theorem ExS.toV {T:Nat→Prop}:∀ {e:Ex} {l:List Value} {S:List Nat},ExS tE w e l S→(∀ b∈S,T b)→ExV w T e l
  | .mk k op wd nm kids a,l,S,h,hS=>by
    rw [ExS] at h
    obtain⟨oa,cap,xs,S',rfl,h2,rfl,h4⟩:=h
    refine .mk _ (rowC_own h2 fun b hb=>hS b (List.mem_append.2 (.inl hb))) ?_
    exact ExSs.toV h4 (fun b hb=>hS b (List.mem_append.2 (.inr hb)))
termination_by structural e=>e
theorem ExSs.toV {T:Nat→Prop}:∀ {es:List Ex} {xs:List Value} {S:List Nat},ExSs tE w es xs S→(∀ b∈S,T b)→∀ (j:Nat) x,es[j]?=some x→ExV w T x ((xs.drop (j*6)).take 6)
  | [],xs,S,h,hS,j,x,hx=>by simp at hx
  | e::r,xs,S,h,hS,0,x,hx=>by
    rw [ExSs] at h
    obtain⟨v,S1,xr,Sr,rfl,rfl,h1,h2⟩:=h
    simp only [List.getElem?_cons_zero,Option.some.injEq] at hx
    subst hx
    have:=ExS.toV h1 (fun b hb=>hS b (List.mem_append.2 (.inl hb)))
    simpa [List.take_append_of_le_length,List.take_of_length_le,h1.len] using this
  | e::r,xs,S,h,hS,j+1,x,hx=>by
    rw [ExSs] at h
    obtain⟨v,S1,xr,Sr,rfl,rfl,h1,h2⟩:=h
    have:=ExSs.toV h2 (fun b hb=>hS b (List.mem_append.2 (.inr hb))) j x (by simpa using hx)
    rw [show (j+1)*6=v.length+j*6 by rw [h1.len];omega,← List.drop_drop,List.drop_left]
    exact this
termination_by structural es=>es
end
theorem ExR.toRow {T:Nat→Prop} {oa:Option Addr} {cap:Nat} {es:List Ex} {S:List Nat} (h:ExR tE w oa cap es S) (hS:∀ b∈S,T b):ExRow w T oa es:=by
  obtain⟨xs,S',h1,rfl,h3⟩:=h
  exact⟨_,rowC_own h1 fun b hb=>hS b (List.mem_append.2 (.inl hb)),ExSs.toV h3 (fun b hb=>hS b (List.mem_append.2 (.inr hb)))⟩
mutual
theorem SmS.toV {T:Nat→Prop}:∀ {e:Sm} {l:List Value} {S:List Nat},SmS tE tS w e l S→(∀ b∈S,T b)→SmV w T e l
  | .mk k nm other e body els a,l,S,h,hS=>by
    rw [SmS] at h
    obtain⟨oe,ce,ob,cb,ol,cl,Se,xb,Sb,xl,Sl,rfl,h2,h3,h4,h5,h6,rfl⟩:=h
    exact .mk _ _ (h2.toRow fun b hb=>hS b (by simp [hb])) (rowC_own h3 fun b hb=>hS b (by simp [hb])) (SmSs.toV h4 fun b hb=>hS b (by simp [hb])) (rowC_own h5 fun b hb=>hS b (by simp [hb])) (SmSs.toV h6 fun b hb=>hS b (by simp [hb]))
termination_by structural e=>e
theorem SmSs.toV {T:Nat→Prop}:∀ {es:List Sm} {xs:List Value} {S:List Nat},SmSs tE tS w es xs S→(∀ b∈S,T b)→∀ (j:Nat) x,es[j]?=some x→SmV w T x ((xs.drop (j*7)).take 7)
  | [],xs,S,h,hS,j,x,hx=>by simp at hx
  | e::r,xs,S,h,hS,0,x,hx=>by
    rw [SmSs] at h
    obtain⟨v,S1,xr,Sr,rfl,rfl,h1,h2⟩:=h
    simp only [List.getElem?_cons_zero,Option.some.injEq] at hx
    subst hx
    have:=SmS.toV h1 (fun b hb=>hS b (List.mem_append.2 (.inl hb)))
    simpa [List.take_append_of_le_length,List.take_of_length_le,h1.len] using this
  | e::r,xs,S,h,hS,j+1,x,hx=>by
    rw [SmSs] at h
    obtain⟨v,S1,xr,Sr,rfl,rfl,h1,h2⟩:=h
    have:=SmSs.toV h2 (fun b hb=>hS b (List.mem_append.2 (.inr hb))) j x (by simpa using hx)
    rw [show (j+1)*7=v.length+j*7 by rw [h1.len];omega,← List.drop_drop,List.drop_left]
    exact this
termination_by structural es=>es
end
theorem SmR.toRow {T:Nat→Prop} {oa:Option Addr} {cap:Nat} {es:List Sm} {S:List Nat} (h:SmR tE tS w oa cap es S) (hS:∀ b∈S,T b):SmRow w T oa es:=by
  obtain⟨xs,S',h1,rfl,h3⟩:=h
  exact⟨_,rowC_own h1 fun b hb=>hS b (List.mem_append.2 (.inl hb)),SmSs.toV h3 (fun b hb=>hS b (List.mem_append.2 (.inr hb)))⟩
theorem dcs_chunk:∀ {ds:List Dc} {j:Nat} {d:Dc},ds[j]?=some d→((ds.flatMap dcL).drop (j*3)).take 3=dcL d
  | [],j,d,h=>by simp at h
  | x::r,0,d,h=>by
    simp only [List.getElem?_cons_zero,Option.some.injEq] at h
    subst h
    simp [dcL]
  | x::r,j+1,d,h=>by
    rw [List.flatMap_cons,show (j+1)*3=(dcL x).length+j*3 by simp [dcL];omega,← List.drop_drop,List.drop_left]
    exact dcs_chunk (by simpa using h)
theorem DcR.toRow {T:Nat→Prop} {oa:Option Addr} {cap:Nat} {es:List Dc} {S:List Nat} (h:DcR tD w oa cap es S) (hS:∀ b∈S,T b):DcRow w T oa es:=by
  obtain⟨h1,rfl⟩:=h
  refine(rowC_own h1 hS).imp id fun ⟨b,off,e,hb,hl,hc⟩=>⟨b,off,e,hb,hl,fun j hj=>?_⟩
  have:=hc j hj
  dsimp only at this
  rw [dcs_chunk (List.getElem?_eq_getElem hj)] at this
  simpa only [List.getD,List.getElem?_eq_getElem hj,Option.getD_some] using this
theorem ThS.toV {T:Nat→Prop} {t:Th} {l:List Value} {S:List Nat} (h:ThS tE tS tD w t l S) (hS:∀ b∈S,T b):ThV w T t l:=by
  obtain⟨ol,cl,ob,cb,Sl,Sb,h1,h2,h3,rfl⟩:=h
  exact⟨ol,cl,ob,cb,h1,h2.toRow fun b hb=>hS b (by simp [hb]),h3.toRow fun b hb=>hS b (by simp [hb])⟩
theorem ThSs.toV {T:Nat→Prop} {es:List Th} {xs:List Value} {S:List Nat} (h:ThSs tE tS tD w es xs S) (hS:∀ b∈S,T b) (j:Nat) (x:Th) (hx:es[j]?=some x):ThV w T x ((xs.drop (j*4)).take 4):=by
  obtain⟨Sj,h1,h2⟩:=h.get hx
  exact h1.toV fun b hb=>hS b (h2 b hb)
theorem ThR.toRow {T:Nat→Prop} {oa:Option Addr} {cap:Nat} {es:List Th} {S:List Nat} (h:ThR tE tS tD tT w oa cap es S) (hS:∀ b∈S,T b):ThRow w T oa es:=by
  obtain⟨xs,S',h1,rfl,h3⟩:=h
  exact⟨_,rowC_own h1 fun b hb=>hS b (List.mem_append.2 (.inl hb)),h3.toV (fun b hb=>hS b (List.mem_append.2 (.inr hb)))⟩
theorem PgS.toV {T:Nat→Prop} {p:Pg} {l:List Value} {S:List Nat} (h:PgS tE tS tD tT w p l S) (hS:∀ b∈S,T b):PgV w T p l:=by
  obtain⟨os,cs,ol,cl,ot,ct,Ss,Sl,St,h1,h2,h3,h4,rfl⟩:=h
  exact⟨os,cs,ol,cl,ot,ct,h1,h2.toRow fun b hb=>hS b (by simp [hb]),h3.toRow fun b hb=>hS b (by simp [hb]),h4.toRow fun b hb=>hS b (by simp [hb])⟩
def Nw (n:Nat) (S:List Nat):Prop:=S.Nodup∧∀ b∈S,n≤b
theorem Nw.nil {n:Nat}:Nw n []:=⟨List.nodup_nil,by simp⟩
theorem Nw.le {n m:Nat} {S:List Nat} (h:Nw n S) (hm:m≤n):Nw m S:=⟨h.1,fun b hb=>Nat.le_trans hm (h.2 b hb)⟩
theorem Nw.app {n:Nat} {S T:List Nat} (h:Nw n S) (k:Nw n T) (hd:∀ b∈S,b∉T):Nw n (S++T):=⟨List.nodup_append.2 ⟨h.1,k.1,fun a ha b hb e=>hd a ha (e▸hb)⟩,fun b hb=>by
  rcases List.mem_append.1 hb with h1|h1
  · exact h.2 b h1
  · exact k.2 b h1⟩
theorem Nw.left {n:Nat} {S T:List Nat} (h:Nw n (S++T)):Nw n S:=⟨(List.nodup_append.1 h.1).1,fun b hb=>h.2 b (List.mem_append.2 (.inl hb))⟩
theorem Nw.right {n:Nat} {S T:List Nat} (h:Nw n (S++T)):Nw n T:=⟨(List.nodup_append.1 h.1).2.1,fun b hb=>h.2 b (List.mem_append.2 (.inr hb))⟩
theorem loc_of {S:List Nat} {φ:World→Prop} (h:∀ w w',φ w→(∀ b∈S,w'.heap[b]?=w.heap[b]?)→φ w'):Loc S φ:=fun a b _ hk hp=>h a b hp hk
theorem holds_of {base:Nat} {S:List Nat} {φ:World→Prop} (h:φ w) (hlt:∀ b∈S,b<w.heap.size) (hk:∀ w w',φ w→(∀ b∈S,w'.heap[b]?=w.heap[b]?)→φ w'):(Res.tree S φ).holds base w:=⟨h,hlt,loc_of hk⟩
end
end Sx
/- The engine,nineteenth part: rows of another's copied;new trees put together. -/
namespace Sx
open Go Go.RowKit
section
variable {w0 w w':World} {M:List Nat} {hs:List Res}
variable {P:Program} {n:Fr} {L:List Oper} {Q:Exit→Act→World→Prop} {kn:Kn} {N:Act→World→Prop}
variable {d ty:Nat} {pos:String} {aft:Array Edge} {g:Option (Nat×Bool)}
def RdRowC (w:World) (oa:Option Addr) (l:List Value):Prop:=l=[]∨∃ a,oa=some a∧∀ k u,l[k]?=some u→w.cell? (a.add k)=some u
theorem run_append_none' (base:Nat) (t ty e:TypeId) (i:TypeInfo) (size c:Nat) (ht:P.underlying t=some (.slice e)) (hi:P.info? e=some i) (v:Value) (n:Nat) (xs:List Value) (hown:w.ownsRow base e size v n xs) :
    (Builtin.append_ #[t,t] ty #[v,.slice none 0 c]).run P w=.ok v w:=by
  rcases hown.2 with ⟨rfl,rfl⟩|⟨g,cap,cur,rfl,_,_,hnc,_⟩
  · simp [Builtin.append_,run_underlying ht,Go.sizeOf,typeInfo,hi,Builtin.lenOf,Builtin.firstCells]
  · simp [Builtin.append_,run_underlying ht,Go.sizeOf,typeInfo,hi,Builtin.lenOf,Builtin.firstCells,hnc,storeCells]
theorem e_appr (st:St w0 M hs w) (i:Nat) {T E size bytes m len c:Nat} {x y:Operand} {v z:Value} {oa:Option Addr} {xs l:List Value} {ti:TypeInfo} (hw:gd L kn g=some true) (hd:okDst n (some d)=true)
    (hx:evO kn x=some v) (hy:evO kn y=some (.slice oa m c)) (hi:nth hs i=some (.own v E size len xs)) (hsrc:RdRowC w oa l)
    (ht:P.underlying T=some (.slice E)) (hinfo:P.info? E=some ti) (hz:ti.zero=some z) (hsize:ti.size=size) (hby:ti.bytes=bytes) (hzs:z.cells.size=size) (hsz:Nat.blt 0 size=true)
    (hl:l.length=m*size) (h1:∀ u∈l,u.oneCell'=true) (h63:len+m≤maxLen) (hbytes:(len+m)*bytes≤140737488355328) {len':Nat} {ys:List Value} (hlen':len+m=len') (hys:xs++l=ys)
    (next:∀ oa cap w',St w0 M (setNth hs i (.own (.slice oa len' cap) E size len' ys)) w'→vN n N ((d,.slice oa len' cap)::kn) w') :
    vS P n L Q ⟨some d,.call ⟨.builtin .append,#[x,y],#[T,T]⟩,ty,pos,aft,g⟩ N kn w:=by
  subst hlen' hys
  have hsz':0<size:=by simpa [Nat.blt_eq] using hsz
  have hown0:w.ownsRow w0.heap.size E size v len xs:=st.res hi
  obtain⟨v',w',hr,hown,hg,hat,⟨oa',cap,rfl⟩⟩:∃ v' w',(Builtin.append_ #[T,T] ty #[v,.slice oa m c]).run P w=.ok v' w'∧w'.ownsRow w0.heap.size E size v' (len+m) (xs++l)∧w.grownBy w' v.ownBlock∧
      (v'.ownBlock=v.ownBlock∨v'.ownBlock=some w.heap.size)∧∃ oa cap,v'=.slice oa (len+m) cap:=by
    have hform:∀ {v':Value} {w':World} {k:Nat} {ys:List Value},w'.ownsRow w0.heap.size E size v' k ys→∃ oa cap,v'=.slice oa k cap:=by
      intro v' w' k ys hown
      rcases hown.2 with ⟨rfl,h0⟩|⟨g,cap,cur,rfl,_⟩
      · exact⟨none,0,by rw [h0]⟩
      · exact⟨_,_,rfl⟩
    have key:∀ a,oa=some a→(∀ k u,l[k]?=some u→w.cell? (a.add k)=some u)→∃ v' w',(Builtin.append_ #[T,T] ty #[v,.slice oa m c]).run P w=.ok v' w'∧w'.ownsRow w0.heap.size E size v' (len+m) (xs++l)∧w.grownBy w' v.ownBlock∧
      (v'.ownBlock=v.ownBlock∨v'.ownBlock=some w.heap.size)∧∃ oa cap,v'=.slice oa (len+m) cap:=by
      rintro a rfl hc
      obtain⟨v',w',hr,hown,hg,hnil,hat⟩:=run_append_own_at (P:=P) w w0.heap.size T ty E ti z size bytes ht hinfo hz hsize hby hzs hsz' v len xs hown0 a m c l hl
        (fun k u hk=>hc k u hk) h1 h63 hbytes st.chg.size
      exact⟨v',w',hr,hown,hg,hat,hform hown⟩
    rcases hsrc with rfl|⟨a,ha,hc⟩
    · obtain rfl:m=0:=by
        simp only [List.length_nil] at hl
        rcases Nat.eq_zero_or_pos m with h|h
        · exact h
        · have:=Nat.mul_pos h hsz';omega
      cases oa with
      | none=>exact⟨v,w,run_append_none' w0.heap.size T ty E ti size c ht hinfo v len xs hown0,by simpa using hown0,⟨rfl,rfl,rfl,Nat.le_refl _,fun _ _ _=>rfl⟩,.inl rfl,hform hown0⟩
      | some a=>exact key a rfl (fun k u hk=>by simp at hk)
    · exact key a ha hc
  refine e_bi [v,.slice oa m c] hw hd (by simp [hx,hy]) (w':=w') (fun cs=>?_) (next oa' cap w' (st.app hi hg hown hat))
  simp only [builtin,Sem.run_bind,List.toArray,hr]
  rfl
theorem dcs_get:∀ {ds:List Dc} {k:Nat} {u:Value},(ds.flatMap dcL)[k]?=some u→∃ j x i,ds[j]?=some x∧(dcL x)[i]?=some u∧k=j*3+i
  | [],k,u,h=>by simp at h
  | x::r,k,u,h=>by
    rw [List.flatMap_cons] at h
    have h3:(dcL x).length=3:=rfl
    rcases Nat.lt_or_ge k 3 with hk|hk
    · rw [List.getElem?_append_left (by omega)] at h
      exact⟨0,x,k,rfl,h,by omega⟩
    · rw [List.getElem?_append_right (by omega),h3] at h
      obtain⟨j,y,i,h1,h2,h3⟩:=dcs_get h
      exact⟨j+1,y,i,by simpa using h1,h2,by omega⟩
theorem DcRow.rd {S:Nat→Prop} {oa:Option Addr} {ds:List Dc} (h:DcRow w S oa ds):RdRowC w oa (ds.flatMap dcL):=by
  rcases h with h|⟨b,off,rfl,hb,hl,hc⟩
  · exact .inl (by rw [List.eq_nil_of_length_eq_zero h];rfl)
  · refine .inr ⟨_,rfl,fun k u hk=>?_⟩
    obtain⟨j,x,i,h1,h2,rfl⟩:=dcs_get hk
    have hj:=(List.getElem?_eq_some_iff.1 h1).1
    have:=(hc j hj).2
    simp only [List.getD,h1,Option.getD_some] at this
    rw [addr_add,← Nat.add_assoc]
    exact this i u h2
theorem dcs_len (ds:List Dc):(ds.flatMap dcL).length=ds.length*3:=by
  induction ds with
  | nil=>rfl
  | cons x r ih=>rw [List.flatMap_cons,List.length_append,ih];simp [dcL];omega
theorem dcs_one (ds:List Dc):∀ u∈ds.flatMap dcL,u.oneCell'=true:=by
  intro u hu
  obtain⟨x,_,hx⟩:=List.mem_flatMap.1 hu
  simp only [dcL,List.mem_cons,List.not_mem_nil,or_false] at hx
  rcases hx with rfl|rfl|rfl <;> rfl
theorem St.ownNw (st:St w0 M hs w) {i:Nat} {E size len cap:Nat} {oa:Option Addr} {xs:List Value} (hi:nth hs i=some (.own (.slice oa len cap) E size len xs)):w.ownsRow 0 E size (.slice oa len cap) len xs∧Nw w0.heap.size (obk oa):=by
  have h:w.ownsRow w0.heap.size E size (.slice oa len cap) len xs:=st.res hi
  refine⟨owns_mono h (fun b _=>Nat.zero_le _),?_,fun b hb=>(owns_lt h b hb).1⟩
  cases oa <;> simp [obk]
theorem St.joinN (st:St w0 M hs w) (n:Nat) {q:Res} (hat:∀ k∈q.at?,∃ r∈hs.take n,k∈r.at?) (hq:q.holds w0.heap.size w):St w0 M (q::hs.drop n) w:=by
  have hnd:=st.nodup
  unfold Apart at hnd
  rw [← List.take_append_drop n hs,List.pairwise_append] at hnd
  obtain⟨h1,h2,h3⟩:=hnd
  refine⟨st.chg,List.pairwise_cons.2 ⟨fun x hx k hk hk'=>?_,h2⟩,fun x hx=>?_⟩
  · obtain⟨r,hr,hkr⟩:=hat k hk
    exact h3 r hr x hx k hkr hk'
  · rcases List.mem_cons.1 hx with rfl|h
    · exact hq
    · exact st.here x (List.mem_of_mem_drop h)
theorem St.ne (st:St w0 M hs w) {i j:Nat} {r s:Res} (hij:i≠j) (hi:nth hs i=some r) (hj:nth hs j=some s):∀ k∈r.at?,k∉s.at?:=apart_nth st.nodup hij hi hj
end
end Sx
