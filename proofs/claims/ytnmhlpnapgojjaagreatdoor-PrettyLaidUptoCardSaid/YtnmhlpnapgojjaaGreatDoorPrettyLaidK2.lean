/- A part of the proof: contracts of functions and plain laws; each theorem says its own conditions. -/
import Derived.Maps.RangeRun
import Derived.Recover
import Derived.Test.YtnmhlpnapgojjaaGreatDoorPrettyLaidK1
set_option linter.unusedVariables false
set_option linter.unusedSimpArgs false
/- The engine,eighteenth part: trees whose rows lie each in a block of its own. -/
namespace Sx
open Go Go.RowKit
def obk:Option Addr→List Nat|some a=>[a.block]|none=>[]
theorem zE8 {oa:Option Addr} {n cap:Nat}:(Value.slice oa n cap).ownBlock.toList=obk oa:=by cases oa <;> rfl
theorem zU4 {w w':World} {base E size n:Nat} {oa:Option Addr} {m cap:Nat} {xs:List Value} (h:w.ownsRow base E size (.slice oa m cap) n xs) (hk:∀ b∈obk oa,w'.heap[b]?=w.heap[b]?):w'.ownsRow base E size (.slice oa m cap) n xs:=by
  refine⟨h.1,h.2.imp id fun ⟨g,c,cur,e,hb,hc,hr⟩=>⟨g,c,cur,e,hb,?_,hr⟩⟩
  simp only [Value.slice.injEq] at e
  rw [hk g (by rw [e.1];simp [obk])];exact hc
theorem zS5 {w:World} {base E size n:Nat} {oa:Option Addr} {m cap:Nat} {xs:List Value} (h:w.ownsRow base E size (.slice oa m cap) n xs):∀ b∈obk oa,base≤b∧b<w.heap.size:=by
  intro b hb
  rw [← zE8 (n:=m) (cap:=cap)] at hb
  exact World.ownsRow.lt h b (by simpa using hb)
theorem gA6 {w:World} {base base' E size n:Nat} {v:Value} {xs:List Value} (h:w.ownsRow base E size v n xs) (hb:∀ b,v.ownBlock=some b→base'≤b):w.ownsRow base' E size v n xs:=
  ⟨h.1,h.2.imp id fun ⟨g,c,cur,e,hg,hr⟩=>⟨g,c,cur,e,hb g (by rw [e];rfl),hr⟩⟩
section
variable (tE tS tD tT:Nat)
mutual
def ExS (w:World):Ex→List Value→List Nat→Prop
  | .mk k op wd nm kids a,l,S=>∃ oa cap xs S',l=[.int .u8 k,.int .u8 op,.int .i64 wd,str nm,.slice oa kids.length cap,.int .i64 a]∧w.ownsRow 0 tE 6 (.slice oa kids.length cap) kids.length xs∧S=obk oa++S'∧ExSs w kids xs S'
termination_by structural e=>e
def ExSs (w:World):List Ex→List Value→List Nat→Prop
  | [],xs,S=>xs=[]∧S=[]
  | e::r,xs,S=>∃ v S1 xr Sr,xs=v++xr∧S=S1++Sr∧ExS w e v S1∧ExSs w r xr Sr
termination_by structural l=>l
end
def ExR (w:World) (oa:Option Addr) (cap:Nat) (es:List Ex) (S:List Nat):Prop:=∃ xs S',w.ownsRow 0 tE 6 (.slice oa es.length cap) es.length xs∧S=obk oa++S'∧ExSs tE w es xs S'
mutual
def SmS (w:World):Sm→List Value→List Nat→Prop
  | .mk k nm other e body els a,l,S=>∃ oe ce ob cb ol cl Se xb Sb xl Sl,l=[.int .u8 k,str nm,str other,.slice oe e.length ce,.slice ob body.length cb,.slice ol els.length cl,.int .i64 a]∧ExR tE w oe ce e Se∧
      w.ownsRow 0 tS 7 (.slice ob body.length cb) body.length xb∧SmSs w body xb Sb∧w.ownsRow 0 tS 7 (.slice ol els.length cl) els.length xl∧SmSs w els xl Sl∧S=Se++((obk ob++Sb)++(obk ol++Sl))
termination_by structural s=>s
def SmSs (w:World):List Sm→List Value→List Nat→Prop
  | [],xs,S=>xs=[]∧S=[]
  | s::r,xs,S=>∃ v S1 xr Sr,xs=v++xr∧S=S1++Sr∧SmS w s v S1∧SmSs w r xr Sr
termination_by structural l=>l
end
def SmR (w:World) (oa:Option Addr) (cap:Nat) (ss:List Sm) (S:List Nat):Prop:=∃ xs S',w.ownsRow 0 tS 7 (.slice oa ss.length cap) ss.length xs∧S=obk oa++S'∧SmSs tE tS w ss xs S'
def DcR (w:World) (oa:Option Addr) (cap:Nat) (ds:List Dc) (S:List Nat):Prop:=w.ownsRow 0 tD 3 (.slice oa ds.length cap) ds.length (ds.flatMap dcL)∧S=obk oa
def ThS (w:World) (t:Th) (l:List Value) (S:List Nat):Prop:=∃ ol cl ob cb Sl Sb,l=[str t.nm,.slice ol t.locals.length cl,.slice ob t.body.length cb,.int .i64 t.a]∧DcR tD w ol cl t.locals Sl∧SmR tE tS w ob cb t.body Sb∧S=Sl++Sb
def ThSs (w:World):List Th→List Value→List Nat→Prop
  | [],xs,S=>xs=[]∧S=[]
  | t::r,xs,S=>∃ v S1 xr Sr,xs=v++xr∧S=S1++Sr∧ThS tE tS tD w t v S1∧ThSs w r xr Sr
def ThR (w:World) (oa:Option Addr) (cap:Nat) (ts:List Th) (S:List Nat):Prop:=∃ xs S',w.ownsRow 0 tT 4 (.slice oa ts.length cap) ts.length xs∧S=obk oa++S'∧ThSs tE tS tD w ts xs S'
def PgS (w:World) (p:Pg) (l:List Value) (S:List Nat):Prop:=∃ os cs ol cl ot ct Ss Sl St,l=[.slice os p.shared.length cs,.slice ol p.locks.length cl,.slice ot p.threads.length ct]∧DcR tD w os cs p.shared Ss∧DcR tD w ol cl p.locks Sl∧ThR tE tS tD tT w ot ct p.threads St∧S=Ss++(Sl++St)
end
section
variable {tE tS tD tT:Nat} {w w':World}
theorem ExS_iff {e:Ex} {l:List Value} {S:List Nat}:ExS tE w e l S↔∃ oa cap,l=[.int .u8 e.k,.int .u8 e.op,.int .i64 e.wd,str e.nm,.slice oa e.kids.length cap,.int .i64 e.a]∧ExR tE w oa cap e.kids S:=by
  cases e with
  | mk k op wd nm kids a=>
    rw [ExS]
    constructor
    · rintro ⟨oa,cap,xs,S',h1,h2,h3,h4⟩
      exact⟨oa,cap,h1,xs,S',h2,h3,h4⟩
    · rintro ⟨oa,cap,h1,xs,S',h2,h3,h4⟩
      exact⟨oa,cap,xs,S',h1,h2,h3,h4⟩
theorem SmS_iff {s:Sm} {l:List Value} {S:List Nat}:SmS tE tS w s l S↔∃ oe ce ob cb ol cl Se Sb Sl,l=[.int .u8 s.k,str s.nm,str s.other,.slice oe s.e.length ce,.slice ob s.body.length cb,.slice ol s.els.length cl,.int .i64 s.a]∧
    ExR tE w oe ce s.e Se∧SmR tE tS w ob cb s.body Sb∧SmR tE tS w ol cl s.els Sl∧S=Se++(Sb++Sl):=by
  cases s with
  | mk k nm other e body els a=>
    rw [SmS]
    constructor
    · rintro ⟨oe,ce,ob,cb,ol,cl,Se,xb,Sb,xl,Sl,h1,h2,h3,h4,h5,h6,h7⟩
      exact⟨oe,ce,ob,cb,ol,cl,Se,_,_,h1,h2,⟨xb,Sb,h3,rfl,h4⟩,⟨xl,Sl,h5,rfl,h6⟩,h7⟩
    · rintro ⟨oe,ce,ob,cb,ol,cl,Se,_,_,h1,h2,⟨xb,Sb,h3,rfl,h4⟩,⟨xl,Sl,h5,rfl,h6⟩,h7⟩
      exact⟨oe,ce,ob,cb,ol,cl,Se,xb,Sb,xl,Sl,h1,h2,h3,h4,h5,h6,h7⟩
theorem ExS.len {e:Ex} {l:List Value} {S:List Nat} (h:ExS tE w e l S):l.length=6:=by obtain⟨oa,cap,rfl,_⟩:=ExS_iff.1 h;rfl
theorem SmS.len {s:Sm} {l:List Value} {S:List Nat} (h:SmS tE tS w s l S):l.length=7:=by obtain⟨oe,ce,ob,cb,ol,cl,Se,Sb,Sl,rfl,_⟩:=SmS_iff.1 h;rfl
theorem ThS.len {t:Th} {l:List Value} {S:List Nat} (h:ThS tE tS tD w t l S):l.length=4:=by obtain⟨ol,cl,ob,cb,Sl,Sb,rfl,_⟩:=h;rfl
mutual
theorem ExS.kept:∀ {e:Ex} {l:List Value} {S:List Nat},ExS tE w e l S→(∀ b∈S,w'.heap[b]?=w.heap[b]?)→ExS tE w' e l S
  | .mk k op wd nm kids a,l,S,h,hk=>by
    rw [ExS] at h ⊢
    obtain⟨oa,cap,xs,S',h1,h2,rfl,h4⟩:=h
    exact⟨oa,cap,xs,S',h1,zU4 h2 (fun b hb=>hk b (List.mem_append.2 (.inl hb))),rfl,ExSs.kept h4 (fun b hb=>hk b (List.mem_append.2 (.inr hb)))⟩
termination_by structural e=>e
theorem ExSs.kept:∀ {es:List Ex} {xs:List Value} {S:List Nat},ExSs tE w es xs S→(∀ b∈S,w'.heap[b]?=w.heap[b]?)→ExSs tE w' es xs S
  | [],xs,S,h,hk=>by rw [ExSs] at h ⊢;exact h
  | e::r,xs,S,h,hk=>by
    rw [ExSs] at h ⊢
    obtain⟨v,S1,xr,Sr,rfl,rfl,h1,h2⟩:=h
    exact⟨v,S1,xr,Sr,rfl,rfl,ExS.kept h1 (fun b hb=>hk b (List.mem_append.2 (.inl hb))),ExSs.kept h2 (fun b hb=>hk b (List.mem_append.2 (.inr hb)))⟩
termination_by structural es=>es
end
theorem ExR.kept {oa:Option Addr} {cap:Nat} {es:List Ex} {S:List Nat} (h:ExR tE w oa cap es S) (hk:∀ b∈S,w'.heap[b]?=w.heap[b]?):ExR tE w' oa cap es S:=by
  obtain⟨xs,S',h1,rfl,h3⟩:=h
  exact⟨xs,S',zU4 h1 (fun b hb=>hk b (List.mem_append.2 (.inl hb))),rfl,ExSs.kept h3 (fun b hb=>hk b (List.mem_append.2 (.inr hb)))⟩
mutual
theorem SmS.kept:∀ {e:Sm} {l:List Value} {S:List Nat},SmS tE tS w e l S→(∀ b∈S,w'.heap[b]?=w.heap[b]?)→SmS tE tS w' e l S
  | .mk k nm other e body els a,l,S,h,hk=>by
    rw [SmS] at h ⊢
    obtain⟨oe,ce,ob,cb,ol,cl,Se,xb,Sb,xl,Sl,h1,h2,h3,h4,h5,h6,rfl⟩:=h
    exact⟨oe,ce,ob,cb,ol,cl,Se,xb,Sb,xl,Sl,h1,h2.kept (fun b hb=>hk b (by simp [hb])),zU4 h3 (fun b hb=>hk b (by simp [hb])),SmSs.kept h4 (fun b hb=>hk b (by simp [hb])),
      zU4 h5 (fun b hb=>hk b (by simp [hb])),SmSs.kept h6 (fun b hb=>hk b (by simp [hb])),rfl⟩
termination_by structural e=>e
theorem SmSs.kept:∀ {es:List Sm} {xs:List Value} {S:List Nat},SmSs tE tS w es xs S→(∀ b∈S,w'.heap[b]?=w.heap[b]?)→SmSs tE tS w' es xs S
  | [],xs,S,h,hk=>by rw [SmSs] at h ⊢;exact h
  | e::r,xs,S,h,hk=>by
    rw [SmSs] at h ⊢
    obtain⟨v,S1,xr,Sr,rfl,rfl,h1,h2⟩:=h
    exact⟨v,S1,xr,Sr,rfl,rfl,SmS.kept h1 (fun b hb=>hk b (List.mem_append.2 (.inl hb))),SmSs.kept h2 (fun b hb=>hk b (List.mem_append.2 (.inr hb)))⟩
termination_by structural es=>es
end
theorem SmR.kept {oa:Option Addr} {cap:Nat} {es:List Sm} {S:List Nat} (h:SmR tE tS w oa cap es S) (hk:∀ b∈S,w'.heap[b]?=w.heap[b]?):SmR tE tS w' oa cap es S:=by
  obtain⟨xs,S',h1,rfl,h3⟩:=h
  exact⟨xs,S',zU4 h1 (fun b hb=>hk b (List.mem_append.2 (.inl hb))),rfl,SmSs.kept h3 (fun b hb=>hk b (List.mem_append.2 (.inr hb)))⟩
theorem DcR.kept {oa:Option Addr} {cap:Nat} {es:List Dc} {S:List Nat} (h:DcR tD w oa cap es S) (hk:∀ b∈S,w'.heap[b]?=w.heap[b]?):DcR tD w' oa cap es S:=by
  obtain⟨h1,rfl⟩:=h
  exact⟨zU4 h1 hk,rfl⟩
theorem ThS.kept {t:Th} {l:List Value} {S:List Nat} (h:ThS tE tS tD w t l S) (hk:∀ b∈S,w'.heap[b]?=w.heap[b]?):ThS tE tS tD w' t l S:=by
  obtain⟨ol,cl,ob,cb,Sl,Sb,h1,h2,h3,rfl⟩:=h
  exact⟨ol,cl,ob,cb,Sl,Sb,h1,h2.kept (fun b hb=>hk b (List.mem_append.2 (.inl hb))),h3.kept (fun b hb=>hk b (List.mem_append.2 (.inr hb))),rfl⟩
theorem ThSs.kept:∀ {es:List Th} {xs:List Value} {S:List Nat},ThSs tE tS tD w es xs S→(∀ b∈S,w'.heap[b]?=w.heap[b]?)→ThSs tE tS tD w' es xs S
  | [],xs,S,h,hk=>by rw [ThSs] at h ⊢;exact h
  | e::r,xs,S,h,hk=>by
    rw [ThSs] at h ⊢
    obtain⟨v,S1,xr,Sr,rfl,rfl,h1,h2⟩:=h
    exact⟨v,S1,xr,Sr,rfl,rfl,h1.kept (fun b hb=>hk b (List.mem_append.2 (.inl hb))),ThSs.kept h2 (fun b hb=>hk b (List.mem_append.2 (.inr hb)))⟩
theorem ThR.kept {oa:Option Addr} {cap:Nat} {es:List Th} {S:List Nat} (h:ThR tE tS tD tT w oa cap es S) (hk:∀ b∈S,w'.heap[b]?=w.heap[b]?):ThR tE tS tD tT w' oa cap es S:=by
  obtain⟨xs,S',h1,rfl,h3⟩:=h
  exact⟨xs,S',zU4 h1 (fun b hb=>hk b (List.mem_append.2 (.inl hb))),rfl,ThSs.kept h3 (fun b hb=>hk b (List.mem_append.2 (.inr hb)))⟩
theorem PgS.kept {p:Pg} {l:List Value} {S:List Nat} (h:PgS tE tS tD tT w p l S) (hk:∀ b∈S,w'.heap[b]?=w.heap[b]?):PgS tE tS tD tT w' p l S:=by
  obtain⟨os,cs,ol,cl,ot,ct,Ss,Sl,St,h1,h2,h3,h4,rfl⟩:=h
  exact⟨os,cs,ol,cl,ot,ct,Ss,Sl,St,h1,h2.kept (fun b hb=>hk b (by simp [hb])),h3.kept (fun b hb=>hk b (by simp [hb])),h4.kept (fun b hb=>hk b (by simp [hb])),rfl⟩
mutual
theorem ExS.lt:∀ {e:Ex} {l:List Value} {S:List Nat},ExS tE w e l S→∀ b∈S,b<w.heap.size
  | .mk k op wd nm kids a,l,S,h,b,hb=>by
    rw [ExS] at h
    obtain⟨oa,cap,xs,S',h1,h2,rfl,h4⟩:=h
    rcases List.mem_append.1 hb with hb|hb
    · exact(zS5 h2 b hb).2
    · exact ExSs.lt h4 b hb
termination_by structural e=>e
theorem ExSs.lt:∀ {es:List Ex} {xs:List Value} {S:List Nat},ExSs tE w es xs S→∀ b∈S,b<w.heap.size
  | [],xs,S,h,b,hb=>by rw [ExSs] at h;rw [h.2] at hb;cases hb
  | e::r,xs,S,h,b,hb=>by
    rw [ExSs] at h
    obtain⟨v,S1,xr,Sr,rfl,rfl,h1,h2⟩:=h
    rcases List.mem_append.1 hb with hb|hb
    · exact ExS.lt h1 b hb
    · exact ExSs.lt h2 b hb
termination_by structural es=>es
end
theorem ExR.lt {oa:Option Addr} {cap:Nat} {es:List Ex} {S:List Nat} (h:ExR tE w oa cap es S):∀ b∈S,b<w.heap.size:=by
  obtain⟨xs,S',h1,rfl,h3⟩:=h
  intro b hb
  rcases List.mem_append.1 hb with hb|hb
  · exact(zS5 h1 b hb).2
  · exact ExSs.lt h3 b hb
mutual
theorem SmS.lt:∀ {e:Sm} {l:List Value} {S:List Nat},SmS tE tS w e l S→∀ b∈S,b<w.heap.size
  | .mk k nm other e body els a,l,S,h,b,hb=>by
    rw [SmS] at h
    obtain⟨oe,ce,ob,cb,ol,cl,Se,xb,Sb,xl,Sl,h1,h2,h3,h4,h5,h6,rfl⟩:=h
    simp only [List.mem_append] at hb
    rcases hb with hb|(hb|hb)|(hb|hb)
    · exact h2.lt b hb
    · exact(zS5 h3 b hb).2
    · exact SmSs.lt h4 b hb
    · exact(zS5 h5 b hb).2
    · exact SmSs.lt h6 b hb
termination_by structural e=>e
theorem SmSs.lt:∀ {es:List Sm} {xs:List Value} {S:List Nat},SmSs tE tS w es xs S→∀ b∈S,b<w.heap.size
  | [],xs,S,h,b,hb=>by rw [SmSs] at h;rw [h.2] at hb;cases hb
  | e::r,xs,S,h,b,hb=>by
    rw [SmSs] at h
    obtain⟨v,S1,xr,Sr,rfl,rfl,h1,h2⟩:=h
    rcases List.mem_append.1 hb with hb|hb
    · exact SmS.lt h1 b hb
    · exact SmSs.lt h2 b hb
termination_by structural es=>es
end
theorem SmR.lt {oa:Option Addr} {cap:Nat} {es:List Sm} {S:List Nat} (h:SmR tE tS w oa cap es S):∀ b∈S,b<w.heap.size:=by
  obtain⟨xs,S',h1,rfl,h3⟩:=h
  intro b hb
  rcases List.mem_append.1 hb with hb|hb
  · exact(zS5 h1 b hb).2
  · exact SmSs.lt h3 b hb
theorem DcR.lt {oa:Option Addr} {cap:Nat} {es:List Dc} {S:List Nat} (h:DcR tD w oa cap es S):∀ b∈S,b<w.heap.size:=by
  obtain⟨h1,rfl⟩:=h
  exact fun b hb=>(zS5 h1 b hb).2
theorem ThS.lt {t:Th} {l:List Value} {S:List Nat} (h:ThS tE tS tD w t l S):∀ b∈S,b<w.heap.size:=by
  obtain⟨ol,cl,ob,cb,Sl,Sb,h1,h2,h3,rfl⟩:=h
  intro b hb
  rcases List.mem_append.1 hb with hb|hb
  · exact h2.lt b hb
  · exact h3.lt b hb
theorem ThSs.lt:∀ {es:List Th} {xs:List Value} {S:List Nat},ThSs tE tS tD w es xs S→∀ b∈S,b<w.heap.size
  | [],xs,S,h,b,hb=>by rw [ThSs] at h;rw [h.2] at hb;cases hb
  | e::r,xs,S,h,b,hb=>by
    rw [ThSs] at h
    obtain⟨v,S1,xr,Sr,rfl,rfl,h1,h2⟩:=h
    rcases List.mem_append.1 hb with hb|hb
    · exact h1.lt b hb
    · exact ThSs.lt h2 b hb
theorem ThR.lt {oa:Option Addr} {cap:Nat} {es:List Th} {S:List Nat} (h:ThR tE tS tD tT w oa cap es S):∀ b∈S,b<w.heap.size:=by
  obtain⟨xs,S',h1,rfl,h3⟩:=h
  intro b hb
  rcases List.mem_append.1 hb with hb|hb
  · exact(zS5 h1 b hb).2
  · exact ThSs.lt h3 b hb
theorem PgS.lt {p:Pg} {l:List Value} {S:List Nat} (h:PgS tE tS tD tT w p l S):∀ b∈S,b<w.heap.size:=by
  obtain⟨os,cs,ol,cl,ot,ct,Ss,Sl,St,h1,h2,h3,h4,rfl⟩:=h
  intro b hb
  simp only [List.mem_append] at hb
  rcases hb with hb|hb|hb
  · exact h2.lt b hb
  · exact h3.lt b hb
  · exact h4.lt b hb
theorem ExSs_app:∀ {a b:List Ex} {xs:List Value} {S:List Nat},ExSs tE w (a++b) xs S↔∃ xa xb Sa Sb,xs=xa++xb∧S=Sa++Sb∧ExSs tE w a xa Sa∧ExSs tE w b xb Sb
  | [],b,xs,S=>by
    simp only [List.nil_append,ExSs]
    constructor
    · intro h;exact⟨[],xs,[],S,rfl,rfl,⟨rfl,rfl⟩,h⟩
    · rintro ⟨xa,xb,Sa,Sb,rfl,rfl,⟨rfl,rfl⟩,h⟩;exact h
  | e::r,b,xs,S=>by
    simp only [List.cons_append,ExSs]
    constructor
    · rintro ⟨v,S1,xr,Sr,rfl,rfl,h1,h2⟩
      obtain⟨xa,xb,Sa,Sb,rfl,rfl,h3,h4⟩:=ExSs_app.1 h2
      exact⟨v++xa,xb,S1++Sa,Sb,by simp,by simp,⟨v,S1,xa,Sa,rfl,rfl,h1,h3⟩,h4⟩
    · rintro ⟨_,xb,_,Sb,rfl,rfl,⟨v,S1,xa,Sa,rfl,rfl,h1,h3⟩,h4⟩
      exact⟨v,S1,xa++xb,Sa++Sb,by simp,by simp,h1,ExSs_app.2 ⟨xa,xb,Sa,Sb,rfl,rfl,h3,h4⟩⟩
theorem SmSs_app:∀ {a b:List Sm} {xs:List Value} {S:List Nat},SmSs tE tS w (a++b) xs S↔∃ xa xb Sa Sb,xs=xa++xb∧S=Sa++Sb∧SmSs tE tS w a xa Sa∧SmSs tE tS w b xb Sb
  | [],b,xs,S=>by
    simp only [List.nil_append,SmSs]
    constructor
    · intro h;exact⟨[],xs,[],S,rfl,rfl,⟨rfl,rfl⟩,h⟩
    · rintro ⟨xa,xb,Sa,Sb,rfl,rfl,⟨rfl,rfl⟩,h⟩;exact h
  | e::r,b,xs,S=>by
    simp only [List.cons_append,SmSs]
    constructor
    · rintro ⟨v,S1,xr,Sr,rfl,rfl,h1,h2⟩
      obtain⟨xa,xb,Sa,Sb,rfl,rfl,h3,h4⟩:=SmSs_app.1 h2
      exact⟨v++xa,xb,S1++Sa,Sb,by simp,by simp,⟨v,S1,xa,Sa,rfl,rfl,h1,h3⟩,h4⟩
    · rintro ⟨_,xb,_,Sb,rfl,rfl,⟨v,S1,xa,Sa,rfl,rfl,h1,h3⟩,h4⟩
      exact⟨v,S1,xa++xb,Sa++Sb,by simp,by simp,h1,SmSs_app.2 ⟨xa,xb,Sa,Sb,rfl,rfl,h3,h4⟩⟩
theorem ThSs_app:∀ {a b:List Th} {xs:List Value} {S:List Nat},ThSs tE tS tD w (a++b) xs S↔∃ xa xb Sa Sb,xs=xa++xb∧S=Sa++Sb∧ThSs tE tS tD w a xa Sa∧ThSs tE tS tD w b xb Sb
  | [],b,xs,S=>by
    simp only [List.nil_append,ThSs]
    constructor
    · intro h;exact⟨[],xs,[],S,rfl,rfl,⟨rfl,rfl⟩,h⟩
    · rintro ⟨xa,xb,Sa,Sb,rfl,rfl,⟨rfl,rfl⟩,h⟩;exact h
  | e::r,b,xs,S=>by
    simp only [List.cons_append,ThSs]
    constructor
    · rintro ⟨v,S1,xr,Sr,rfl,rfl,h1,h2⟩
      obtain⟨xa,xb,Sa,Sb,rfl,rfl,h3,h4⟩:=ThSs_app.1 h2
      exact⟨v++xa,xb,S1++Sa,Sb,by simp,by simp,⟨v,S1,xa,Sa,rfl,rfl,h1,h3⟩,h4⟩
    · rintro ⟨_,xb,_,Sb,rfl,rfl,⟨v,S1,xa,Sa,rfl,rfl,h1,h3⟩,h4⟩
      exact⟨v,S1,xa++xb,Sa++Sb,by simp,by simp,h1,ThSs_app.2 ⟨xa,xb,Sa,Sb,rfl,rfl,h3,h4⟩⟩
theorem ExSs_one {e:Ex} {xs:List Value} {S:List Nat}:ExSs tE w [e] xs S↔ExS tE w e xs S:=by
  simp only [ExSs]
  constructor
  · rintro ⟨v,S1,xr,Sr,rfl,rfl,h1,rfl,rfl⟩;simpa using h1
  · intro h;exact⟨xs,S,[],[],by simp,by simp,h,rfl,rfl⟩
theorem SmSs_one {e:Sm} {xs:List Value} {S:List Nat}:SmSs tE tS w [e] xs S↔SmS tE tS w e xs S:=by
  simp only [SmSs]
  constructor
  · rintro ⟨v,S1,xr,Sr,rfl,rfl,h1,rfl,rfl⟩;simpa using h1
  · intro h;exact⟨xs,S,[],[],by simp,by simp,h,rfl,rfl⟩
theorem ThSs_one {e:Th} {xs:List Value} {S:List Nat}:ThSs tE tS tD w [e] xs S↔ThS tE tS tD w e xs S:=by
  simp only [ThSs]
  constructor
  · rintro ⟨v,S1,xr,Sr,rfl,rfl,h1,rfl,rfl⟩;simpa using h1
  · intro h;exact⟨xs,S,[],[],by simp,by simp,h,rfl,rfl⟩
theorem ExSs.snoc {a:List Ex} {e:Ex} {xs l:List Value} {S S1:List Nat} (h:ExSs tE w a xs S) (h1:ExS tE w e l S1):ExSs tE w (a++[e]) (xs++l) (S++S1):=ExSs_app.2 ⟨xs,l,S,S1,rfl,rfl,h,ExSs_one.2 h1⟩
theorem SmSs.snoc {a:List Sm} {e:Sm} {xs l:List Value} {S S1:List Nat} (h:SmSs tE tS w a xs S) (h1:SmS tE tS w e l S1):SmSs tE tS w (a++[e]) (xs++l) (S++S1):=SmSs_app.2 ⟨xs,l,S,S1,rfl,rfl,h,SmSs_one.2 h1⟩
theorem ThSs.snoc {a:List Th} {e:Th} {xs l:List Value} {S S1:List Nat} (h:ThSs tE tS tD w a xs S) (h1:ThS tE tS tD w e l S1):ThSs tE tS tD w (a++[e]) (xs++l) (S++S1):=ThSs_app.2 ⟨xs,l,S,S1,rfl,rfl,h,ThSs_one.2 h1⟩
theorem ThSs.get:∀ {es:List Th} {xs:List Value} {S:List Nat} {j:Nat} {e:Th},ThSs tE tS tD w es xs S→es[j]?=some e→∃ Sj,ThS tE tS tD w e ((xs.drop (j*4)).take 4) Sj∧∀ b∈Sj,b∈S
  | [],xs,S,j,e,h,hj=>by simp at hj
  | x::r,xs,S,0,e,h,hj=>by
    rw [ThSs] at h
    obtain⟨v,S1,xr,Sr,rfl,rfl,h1,h2⟩:=h
    simp only [List.getElem?_cons_zero,Option.some.injEq] at hj
    subst hj
    refine⟨S1,?_,fun b hb=>List.mem_append.2 (.inl hb)⟩
    simpa [List.take_append_of_le_length,List.take_of_length_le,h1.len] using h1
  | x::r,xs,S,j+1,e,h,hj=>by
    rw [ThSs] at h
    obtain⟨v,S1,xr,Sr,rfl,rfl,h1,h2⟩:=h
    obtain⟨Sj,h3,h4⟩:=ThSs.get h2 (by simpa using hj)
    refine⟨Sj,?_,fun b hb=>List.mem_append.2 (.inr (h4 b hb))⟩
    rw [show (j+1)*4=v.length+j*4 by rw [h1.len];omega,← List.drop_drop,List.drop_left]
    exact h3
theorem zS8 {oa:Option Addr} {n cap E sz:Nat} {xs:List Value} {S:Nat→Prop} (h:w.ownsRow 0 E sz (.slice oa n cap) n xs) (hS:∀ b∈obk oa,S b):RowC w S sz oa n (fun j=>(xs.drop (j*sz)).take sz):=by
  rcases Nat.eq_zero_or_pos n with h0|h0
  · exact .inl h0
  · right
    obtain⟨g,c,e,-⟩:=qI4 h h0
    simp only [Value.slice.injEq] at e
    obtain⟨rfl,-,rfl⟩:=e
    refine⟨g,0,rfl,hS g (by simp [obk]),(zS5 h g (by simp [obk])).2,fun j hj=>⟨?_,fun i v hi=>?_⟩⟩
    · have h1:xs.length=n*sz:=h.1
      have h2:j*sz+sz≤n*sz:=by rw [← Nat.succ_mul];exact Nat.mul_le_mul_right _ hj
      simp;omega
    · rw [List.getElem?_take] at hi
      split at hi
      · rw [List.getElem?_drop] at hi
        rw [Nat.zero_add]
        exact qD7 h hi
      · cases hi
mutual
theorem ExS.toV {T:Nat→Prop}:∀ {e:Ex} {l:List Value} {S:List Nat},ExS tE w e l S→(∀ b∈S,T b)→ExV w T e l
  | .mk k op wd nm kids a,l,S,h,hS=>by
    rw [ExS] at h
    obtain⟨oa,cap,xs,S',rfl,h2,rfl,h4⟩:=h
    refine .mk _ (zS8 h2 fun b hb=>hS b (List.mem_append.2 (.inl hb))) ?_
    exact ExSs.toV h4 (fun b hb=>hS b (List.mem_append.2 (.inr hb)))
termination_by structural e=>e
theorem ExSs.toV {T:Nat→Prop}:∀ {es:List Ex} {xs:List Value} {S:List Nat},ExSs tE w es xs S→(∀ b∈S,T b)→∀ (j:Nat) x,es[j]?=some x→ExV w T x ((xs.drop (j*6)).take 6)
  | [],xs,S,h,hS,j,x,hx=>by simp at hx
  | e::r,xs,S,h,hS,0,x,hx=>by
    rw [ExSs] at h
    obtain⟨v,S1,xr,Sr,rfl,rfl,h1,h2⟩:=h
    simp only [List.getElem?_cons_zero,Option.some.injEq] at hx
    subst hx
    have:=ExS.toV h1 (fun b hb=>hS b (List.mem_append.2 (.inl hb)))
    simpa [List.take_append_of_le_length,List.take_of_length_le,h1.len] using this
  | e::r,xs,S,h,hS,j+1,x,hx=>by
    rw [ExSs] at h
    obtain⟨v,S1,xr,Sr,rfl,rfl,h1,h2⟩:=h
    have:=ExSs.toV h2 (fun b hb=>hS b (List.mem_append.2 (.inr hb))) j x (by simpa using hx)
    rw [show (j+1)*6=v.length+j*6 by rw [h1.len];omega,← List.drop_drop,List.drop_left]
    exact this
termination_by structural es=>es
end
theorem ExR.toRow {T:Nat→Prop} {oa:Option Addr} {cap:Nat} {es:List Ex} {S:List Nat} (h:ExR tE w oa cap es S) (hS:∀ b∈S,T b):ExRow w T oa es:=by
  obtain⟨xs,S',h1,rfl,h3⟩:=h
  exact⟨_,zS8 h1 fun b hb=>hS b (List.mem_append.2 (.inl hb)),ExSs.toV h3 (fun b hb=>hS b (List.mem_append.2 (.inr hb)))⟩
mutual
theorem SmS.toV {T:Nat→Prop}:∀ {e:Sm} {l:List Value} {S:List Nat},SmS tE tS w e l S→(∀ b∈S,T b)→SmV w T e l
  | .mk k nm other e body els a,l,S,h,hS=>by
    rw [SmS] at h
    obtain⟨oe,ce,ob,cb,ol,cl,Se,xb,Sb,xl,Sl,rfl,h2,h3,h4,h5,h6,rfl⟩:=h
    exact .mk _ _ (h2.toRow fun b hb=>hS b (by simp [hb])) (zS8 h3 fun b hb=>hS b (by simp [hb])) (SmSs.toV h4 fun b hb=>hS b (by simp [hb])) (zS8 h5 fun b hb=>hS b (by simp [hb])) (SmSs.toV h6 fun b hb=>hS b (by simp [hb]))
termination_by structural e=>e
theorem SmSs.toV {T:Nat→Prop}:∀ {es:List Sm} {xs:List Value} {S:List Nat},SmSs tE tS w es xs S→(∀ b∈S,T b)→∀ (j:Nat) x,es[j]?=some x→SmV w T x ((xs.drop (j*7)).take 7)
  | [],xs,S,h,hS,j,x,hx=>by simp at hx
  | e::r,xs,S,h,hS,0,x,hx=>by
    rw [SmSs] at h
    obtain⟨v,S1,xr,Sr,rfl,rfl,h1,h2⟩:=h
    simp only [List.getElem?_cons_zero,Option.some.injEq] at hx
    subst hx
    have:=SmS.toV h1 (fun b hb=>hS b (List.mem_append.2 (.inl hb)))
    simpa [List.take_append_of_le_length,List.take_of_length_le,h1.len] using this
  | e::r,xs,S,h,hS,j+1,x,hx=>by
    rw [SmSs] at h
    obtain⟨v,S1,xr,Sr,rfl,rfl,h1,h2⟩:=h
    have:=SmSs.toV h2 (fun b hb=>hS b (List.mem_append.2 (.inr hb))) j x (by simpa using hx)
    rw [show (j+1)*7=v.length+j*7 by rw [h1.len];omega,← List.drop_drop,List.drop_left]
    exact this
termination_by structural es=>es
end
theorem SmR.toRow {T:Nat→Prop} {oa:Option Addr} {cap:Nat} {es:List Sm} {S:List Nat} (h:SmR tE tS w oa cap es S) (hS:∀ b∈S,T b):SmRow w T oa es:=by
  obtain⟨xs,S',h1,rfl,h3⟩:=h
  exact⟨_,zS8 h1 fun b hb=>hS b (List.mem_append.2 (.inl hb)),SmSs.toV h3 (fun b hb=>hS b (List.mem_append.2 (.inr hb)))⟩
theorem qW6:∀ {ds:List Dc} {j:Nat} {d:Dc},ds[j]?=some d→((ds.flatMap dcL).drop (j*3)).take 3=dcL d
  | [],j,d,h=>by simp at h
  | x::r,0,d,h=>by
    simp only [List.getElem?_cons_zero,Option.some.injEq] at h
    subst h
    simp [dcL]
  | x::r,j+1,d,h=>by
    rw [List.flatMap_cons,show (j+1)*3=(dcL x).length+j*3 by simp [dcL];omega,← List.drop_drop,List.drop_left]
    exact qW6 (by simpa using h)
theorem DcR.toRow {T:Nat→Prop} {oa:Option Addr} {cap:Nat} {es:List Dc} {S:List Nat} (h:DcR tD w oa cap es S) (hS:∀ b∈S,T b):DcRow w T oa es:=by
  obtain⟨h1,rfl⟩:=h
  refine(zS8 h1 hS).imp id fun ⟨b,off,e,hb,hl,hc⟩=>⟨b,off,e,hb,hl,fun j hj=>?_⟩
  have:=hc j hj
  dsimp only at this
  rw [qW6 (List.getElem?_eq_getElem hj)] at this
  simpa only [List.getD,List.getElem?_eq_getElem hj,Option.getD_some] using this
theorem ThS.toV {T:Nat→Prop} {t:Th} {l:List Value} {S:List Nat} (h:ThS tE tS tD w t l S) (hS:∀ b∈S,T b):ThV w T t l:=by
  obtain⟨ol,cl,ob,cb,Sl,Sb,h1,h2,h3,rfl⟩:=h
  exact⟨ol,cl,ob,cb,h1,h2.toRow fun b hb=>hS b (by simp [hb]),h3.toRow fun b hb=>hS b (by simp [hb])⟩
theorem ThSs.toV {T:Nat→Prop} {es:List Th} {xs:List Value} {S:List Nat} (h:ThSs tE tS tD w es xs S) (hS:∀ b∈S,T b) (j:Nat) (x:Th) (hx:es[j]?=some x):ThV w T x ((xs.drop (j*4)).take 4):=by
  obtain⟨Sj,h1,h2⟩:=h.get hx
  exact h1.toV fun b hb=>hS b (h2 b hb)
theorem ThR.toRow {T:Nat→Prop} {oa:Option Addr} {cap:Nat} {es:List Th} {S:List Nat} (h:ThR tE tS tD tT w oa cap es S) (hS:∀ b∈S,T b):ThRow w T oa es:=by
  obtain⟨xs,S',h1,rfl,h3⟩:=h
  exact⟨_,zS8 h1 fun b hb=>hS b (List.mem_append.2 (.inl hb)),h3.toV (fun b hb=>hS b (List.mem_append.2 (.inr hb)))⟩
theorem PgS.toV {T:Nat→Prop} {p:Pg} {l:List Value} {S:List Nat} (h:PgS tE tS tD tT w p l S) (hS:∀ b∈S,T b):PgV w T p l:=by
  obtain⟨os,cs,ol,cl,ot,ct,Ss,Sl,St,h1,h2,h3,h4,rfl⟩:=h
  exact⟨os,cs,ol,cl,ot,ct,h1,h2.toRow fun b hb=>hS b (by simp [hb]),h3.toRow fun b hb=>hS b (by simp [hb]),h4.toRow fun b hb=>hS b (by simp [hb])⟩
def Nw (n:Nat) (S:List Nat):Prop:=S.Nodup∧∀ b∈S,n≤b
theorem Nw.nil {n:Nat}:Nw n []:=⟨List.nodup_nil,by simp⟩
theorem Nw.le {n m:Nat} {S:List Nat} (h:Nw n S) (hm:m≤n):Nw m S:=⟨h.1,fun b hb=>Nat.le_trans hm (h.2 b hb)⟩
theorem Nw.app {n:Nat} {S T:List Nat} (h:Nw n S) (k:Nw n T) (hd:∀ b∈S,b∉T):Nw n (S++T):=⟨List.nodup_append.2 ⟨h.1,k.1,fun a ha b hb e=>hd a ha (e▸hb)⟩,fun b hb=>by
  rcases List.mem_append.1 hb with h1|h1
  · exact h.2 b h1
  · exact k.2 b h1⟩
theorem Nw.left {n:Nat} {S T:List Nat} (h:Nw n (S++T)):Nw n S:=⟨(List.nodup_append.1 h.1).1,fun b hb=>h.2 b (List.mem_append.2 (.inl hb))⟩
theorem Nw.right {n:Nat} {S T:List Nat} (h:Nw n (S++T)):Nw n T:=⟨(List.nodup_append.1 h.1).2.1,fun b hb=>h.2 b (List.mem_append.2 (.inr hb))⟩
theorem Nw.ne {n:Nat} {S T:List Nat} (h:Nw n (S++T)):∀ b∈S,b∉T:=fun b hb hb'=>(List.nodup_append.1 h.1).2.2 b hb b hb' rfl
theorem qG2 {S:List Nat} {φ:World→Prop} (h:∀ w w',φ w→(∀ b∈S,w'.heap[b]?=w.heap[b]?)→φ w'):Loc S φ:=fun a b _ hk hp=>h a b hp hk
theorem zD2 {base:Nat} {S:List Nat} {φ:World→Prop} (h:φ w) (hlt:∀ b∈S,b<w.heap.size) (hk:∀ w w',φ w→(∀ b∈S,w'.heap[b]?=w.heap[b]?)→φ w'):(Res.tree S φ).holds base w:=⟨h,hlt,qG2 hk⟩
end
end Sx
/- The engine,nineteenth part: rows of another's copied;new trees put together. -/
namespace Sx
open Go Go.RowKit
section
variable {w0 w w':World} {M:List Nat} {hs:List Res}
variable {P:Program} {n:Fr} {L:List Oper} {Q:Exit→Act→World→Prop} {kn:Kn} {N:Act→World→Prop}
variable {d ty:Nat} {pos:String} {aft:Array Edge} {g:Option (Nat×Bool)}
def kL3 (w:World) (oa:Option Addr) (l:List Value):Prop:=l=[]∨∃ a,oa=some a∧∀ k u,l[k]?=some u→w.cell? (a.add k)=some u
theorem qS6 (base:Nat) (t ty e:TypeId) (i:TypeInfo) (size c:Nat) (ht:P.underlying t=some (.slice e)) (hi:P.info? e=some i) (v:Value) (n:Nat) (xs:List Value) (hown:w.ownsRow base e size v n xs) :
    (Builtin.append_ #[t,t] ty #[v,.slice none 0 c]).run P w=.ok v w:=by
  rcases hown.2 with ⟨rfl,rfl⟩|⟨g,cap,cur,rfl,_,_,hnc,_⟩
  · simp [Builtin.append_,run_underlying ht,Go.sizeOf,typeInfo,hi,Builtin.lenOf,Builtin.firstCells]
  · simp [Builtin.append_,run_underlying ht,Go.sizeOf,typeInfo,hi,Builtin.lenOf,Builtin.firstCells,hnc,storeCells]
theorem qE1 (st:St w0 M hs w) (i:Nat) {T E size bytes m len c:Nat} {x y:Operand} {v z:Value} {oa:Option Addr} {xs l:List Value} {ti:TypeInfo} (hw:gd L kn g=some true) (hd:zI7 n (some d)=true)
    (hx:evO kn x=some v) (hy:evO kn y=some (.slice oa m c)) (hi:nth hs i=some (.own v E size len xs)) (hsrc:kL3 w oa l)
    (ht:P.underlying T=some (.slice E)) (hinfo:P.info? E=some ti) (hz:ti.zero=some z) (hsize:ti.size=size) (hby:ti.bytes=bytes) (hzs:z.cells.size=size) (hsz:Nat.blt 0 size=true)
    (hl:l.length=m*size) (h1:∀ u∈l,u.oneCell'=true) (h63:len+m≤maxLen) (hbytes:(len+m)*bytes≤140737488355328) {len':Nat} {ys:List Value} (hlen':len+m=len') (hys:xs++l=ys)
    (next:∀ oa cap w',St w0 M (zA0 hs i (.own (.slice oa len' cap) E size len' ys)) w'→vN n N ((d,.slice oa len' cap)::kn) w') :
    vS P n L Q ⟨some d,.call ⟨.builtin .append,#[x,y],#[T,T]⟩,ty,pos,aft,g⟩ N kn w:=by
  subst hlen' hys
  have hsz':0<size:=by simpa [Nat.blt_eq] using hsz
  have hown0:w.ownsRow w0.heap.size E size v len xs:=st.res hi
  obtain⟨v',w',hr,hown,hg,hat,⟨oa',cap,rfl⟩⟩:∃ v' w',(Builtin.append_ #[T,T] ty #[v,.slice oa m c]).run P w=.ok v' w'∧w'.ownsRow w0.heap.size E size v' (len+m) (xs++l)∧w.grownBy w' v.ownBlock∧
      (v'.ownBlock=v.ownBlock∨v'.ownBlock=some w.heap.size)∧∃ oa cap,v'=.slice oa (len+m) cap:=by
    have hform:∀ {v':Value} {w':World} {k:Nat} {ys:List Value},w'.ownsRow w0.heap.size E size v' k ys→∃ oa cap,v'=.slice oa k cap:=by
      intro v' w' k ys hown
      rcases hown.2 with ⟨rfl,h0⟩|⟨g,cap,cur,rfl,_⟩
      · exact⟨none,0,by rw [h0]⟩
      · exact⟨_,_,rfl⟩
    have key:∀ a,oa=some a→(∀ k u,l[k]?=some u→w.cell? (a.add k)=some u)→∃ v' w',(Builtin.append_ #[T,T] ty #[v,.slice oa m c]).run P w=.ok v' w'∧w'.ownsRow w0.heap.size E size v' (len+m) (xs++l)∧w.grownBy w' v.ownBlock∧
      (v'.ownBlock=v.ownBlock∨v'.ownBlock=some w.heap.size)∧∃ oa cap,v'=.slice oa (len+m) cap:=by
      rintro a rfl hc
      obtain⟨v',w',hr,hown,hg,hnil,hat⟩:=run_append_own_at (P:=P) w w0.heap.size T ty E ti z size bytes ht hinfo hz hsize hby hzs hsz' v len xs hown0 a m c l hl
        (fun k u hk=>hc k u hk) h1 h63 hbytes st.chg.size
      exact⟨v',w',hr,hown,hg,hat,hform hown⟩
    rcases hsrc with rfl|⟨a,ha,hc⟩
    · obtain rfl:m=0:=by
        simp only [List.length_nil] at hl
        rcases Nat.eq_zero_or_pos m with h|h
        · exact h
        · have:=Nat.mul_pos h hsz';omega
      cases oa with
      | none=>exact⟨v,w,qS6 w0.heap.size T ty E ti size c ht hinfo v len xs hown0,by simpa using hown0,⟨rfl,rfl,rfl,Nat.le_refl _,fun _ _ _=>rfl⟩,.inl rfl,hform hown0⟩
      | some a=>exact key a rfl (fun k u hk=>by simp at hk)
    · exact key a ha hc
  refine e_bi [v,.slice oa m c] hw hd (by simp [hx,hy]) (w':=w') (fun cs=>?_) (next oa' cap w' (st.app hi hg hown hat))
  simp only [builtin,Sem.run_bind,List.toArray,hr]
  rfl
theorem kI1:∀ {ds:List Dc} {k:Nat} {u:Value},(ds.flatMap dcL)[k]?=some u→∃ j x i,ds[j]?=some x∧(dcL x)[i]?=some u∧k=j*3+i
  | [],k,u,h=>by simp at h
  | x::r,k,u,h=>by
    rw [List.flatMap_cons] at h
    have h3:(dcL x).length=3:=rfl
    rcases Nat.lt_or_ge k 3 with hk|hk
    · rw [List.getElem?_append_left (by omega)] at h
      exact⟨0,x,k,rfl,h,by omega⟩
    · rw [List.getElem?_append_right (by omega),h3] at h
      obtain⟨j,y,i,h1,h2,h3⟩:=kI1 h
      exact⟨j+1,y,i,by simpa using h1,h2,by omega⟩
theorem DcRow.rd {S:Nat→Prop} {oa:Option Addr} {ds:List Dc} (h:DcRow w S oa ds):kL3 w oa (ds.flatMap dcL):=by
  rcases h with h|⟨b,off,rfl,hb,hl,hc⟩
  · exact .inl (by rw [List.eq_nil_of_length_eq_zero h];rfl)
  · refine .inr ⟨_,rfl,fun k u hk=>?_⟩
    obtain⟨j,x,i,h1,h2,rfl⟩:=kI1 hk
    have hj:=(List.getElem?_eq_some_iff.1 h1).1
    have:=(hc j hj).2
    simp only [List.getD,h1,Option.getD_some] at this
    rw [zP4,← Nat.add_assoc]
    exact this i u h2
theorem zU8 (ds:List Dc):(ds.flatMap dcL).length=ds.length*3:=by
  induction ds with
  | nil=>rfl
  | cons x r ih=>rw [List.flatMap_cons,List.length_append,ih];simp [dcL];omega
theorem zU7 (ds:List Dc):∀ u∈ds.flatMap dcL,u.oneCell'=true:=by
  intro u hu
  obtain⟨x,_,hx⟩:=List.mem_flatMap.1 hu
  simp only [dcL,List.mem_cons,List.not_mem_nil,or_false] at hx
  rcases hx with rfl|rfl|rfl <;> rfl
theorem St.ownNw (st:St w0 M hs w) {i:Nat} {E size len cap:Nat} {oa:Option Addr} {xs:List Value} (hi:nth hs i=some (.own (.slice oa len cap) E size len xs)):w.ownsRow 0 E size (.slice oa len cap) len xs∧Nw w0.heap.size (obk oa):=by
  have h:w.ownsRow w0.heap.size E size (.slice oa len cap) len xs:=st.res hi
  refine⟨gA6 h (fun b _=>Nat.zero_le _),?_,fun b hb=>(zS5 h b hb).1⟩
  cases oa <;> simp [obk]
theorem St.joinN (st:St w0 M hs w) (n:Nat) {q:Res} (hat:∀ k∈q.at?,∃ r∈hs.take n,k∈r.at?) (hq:q.holds w0.heap.size w):St w0 M (q::hs.drop n) w:=by
  have hnd:=st.nodup
  unfold gR9 at hnd
  rw [← List.take_append_drop n hs,List.pairwise_append] at hnd
  obtain⟨h1,h2,h3⟩:=hnd
  refine⟨st.chg,List.pairwise_cons.2 ⟨fun x hx k hk hk'=>?_,h2⟩,fun x hx=>?_⟩
  · obtain⟨r,hr,hkr⟩:=hat k hk
    exact h3 r hr x hx k hkr hk'
  · rcases List.mem_cons.1 hx with rfl|h
    · exact hq
    · exact st.here x (List.mem_of_mem_drop h)
theorem St.ne (st:St w0 M hs w) {i j:Nat} {r s:Res} (hij:i≠j) (hi:nth hs i=some r) (hj:nth hs j=some s):∀ k∈r.at?,k∉s.at?:=zH3 st.nodup hij hi hj
end
end Sx
/- The engine,twenty-first part: trees that are written over in their own places. -/
namespace Sx
open Go Go.RowKit
def RowS {α:Type} (V:World→α→List Value→List Nat→Prop) (w:World):List α→List Value→List Nat→Prop
  | [],xs,S=>xs=[]∧S=[]
  | e::r,xs,S=>∃ v S1 xr Sr,xs=v++xr∧S=S1++Sr∧V w e v S1∧RowS V w r xr Sr
theorem gW7 {tE:Nat} {w:World}:∀ {es:List Ex} {xs:List Value} {S:List Nat},ExSs tE w es xs S↔RowS (ExS tE) w es xs S
  | [],xs,S=>by simp only [ExSs,RowS]
  | e::r,xs,S=>by simp only [ExSs,RowS,gW7 (es:=r)]
theorem gW2 {tE tS:Nat} {w:World}:∀ {es:List Sm} {xs:List Value} {S:List Nat},SmSs tE tS w es xs S↔RowS (SmS tE tS) w es xs S
  | [],xs,S=>by simp only [SmSs,RowS]
  | e::r,xs,S=>by simp only [SmSs,RowS,gW2 (es:=r)]
theorem gW5 {tE tS tD:Nat} {w:World}:∀ {es:List Th} {xs:List Value} {S:List Nat},ThSs tE tS tD w es xs S↔RowS (ThS tE tS tD) w es xs S
  | [],xs,S=>by simp only [ThSs,RowS]
  | e::r,xs,S=>by simp only [ThSs,RowS,gW5 (es:=r)]
section
variable {α:Type} {V:World→α→List Value→List Nat→Prop} {w w':World} {sz:Nat}
theorem RowS.kept (hV:∀ w w' x v S,V w x v S→(∀ b∈S,w'.heap[b]?=w.heap[b]?)→V w' x v S):∀ {es:List α} {xs:List Value} {S:List Nat},RowS V w es xs S→(∀ b∈S,w'.heap[b]?=w.heap[b]?)→RowS V w' es xs S
  | [],xs,S,h,hk=>h
  | e::r,xs,S,h,hk=>by
    obtain⟨v,S1,xr,Sr,rfl,rfl,h1,h2⟩:=h
    exact⟨v,S1,xr,Sr,rfl,rfl,hV _ _ _ _ _ h1 (fun b hb=>hk b (List.mem_append.2 (.inl hb))),RowS.kept hV h2 (fun b hb=>hk b (List.mem_append.2 (.inr hb)))⟩
theorem RowS.focus (hlen:∀ w x v S,V w x v S→v.length=sz) (hV:∀ w w' x v S,V w x v S→(∀ b∈S,w'.heap[b]?=w.heap[b]?)→V w' x v S):∀ {es:List α} {xs:List Value} {S:List Nat} {j:Nat} {e:α},RowS V w es xs S→es[j]?=some e→
    ∃ v Sj S1 S2 xa xb,xs=xa++v++xb∧xa.length=j*sz∧S=S1++Sj++S2∧V w e v Sj∧
      ∀ (w':World) (e':α) (v':List Value),V w' e' v' Sj→(∀ b∈S1++S2,w'.heap[b]?=w.heap[b]?)→RowS V w' (es.set j e') (xa++v'++xb) S
  | [],xs,S,j,e,h,hj=>by simp at hj
  | x::r,xs,S,0,e,h,hj=>by
    obtain⟨v,S1,xr,Sr,rfl,rfl,h1,h2⟩:=h
    simp only [List.getElem?_cons_zero,Option.some.injEq] at hj
    subst hj
    refine⟨v,S1,[],Sr,[],xr,by simp,by simp,by simp,h1,fun w' e' v' hv' hk=>?_⟩
    refine⟨v',S1,xr,Sr,by simp,rfl,hv',RowS.kept hV h2 fun b hb=>hk b (by simpa using hb)⟩
  | x::r,xs,S,j+1,e,h,hj=>by
    obtain⟨v,S1,xr,Sr,rfl,rfl,h1,h2⟩:=h
    obtain⟨u,Sj,T1,T2,xa,xb,rfl,h3,rfl,h4,h5⟩:=RowS.focus hlen hV h2 (by simpa using hj)
    refine⟨u,Sj,S1++T1,T2,v++xa,xb,by simp,by rw [List.length_append,hlen _ _ _ _ h1,h3,Nat.succ_mul];omega,by simp,h4,fun w' e' v' hv' hk=>?_⟩
    refine⟨v,S1,xa++v'++xb,T1++Sj++T2,by simp,by simp,hV _ _ _ _ _ h1 fun b hb=>hk b (by simp [hb]),?_⟩
    exact h5 w' e' v' hv' fun b hb=>hk b (by simp only [List.mem_append] at hb ⊢;rcases hb with h|h;exact .inl (.inr h);exact .inr h)
def RowT {α:Type} (V:World→α→List Value→List Nat→Prop) (E sz:Nat) (w:World) (oa:Option Addr) (cap:Nat) (es:List α) (S:List Nat):Prop:=∃ xs S',w.ownsRow 0 E sz (.slice oa es.length cap) es.length xs∧S=obk oa++S'∧RowS V w es xs S'
theorem RowT.focus {E:Nat} (hsz:0<sz) (hlen:∀ w x v S,V w x v S→v.length=sz) (hV:∀ w w' x v S,V w x v S→(∀ b∈S,w'.heap[b]?=w.heap[b]?)→V w' x v S) {oa:Option Addr} {cap:Nat} {es:List α} {S:List Nat} {j:Nat} {e:α} (h:RowT V E sz w oa cap es S) (hS:S.Nodup) (hj:es[j]?=some e) :
    ∃ b v Sj S1 S2,oa=some ⟨b,0,none⟩∧b<w.heap.size∧S=[b]++(S1++Sj++S2)∧V w e v Sj∧(∀ i u,v[i]?=some u→w.cell? ⟨b,j*sz+i,none⟩=some u)∧(∀ i,w.frozen? ⟨b,i,none⟩=false)∧
      (∀ (i:Nat) (u:Value) (e':α),i<sz→V w e' (v.set i u) Sj→RowT V E sz (w.setCell ⟨b,j*sz+i,none⟩ u) oa cap (es.set j e') S)∧
      (∀ (w':World) (e':α),V w' e' v Sj→w.heap.size≤w'.heap.size→(∀ k,k<w.heap.size→k∉Sj→w'.heap[k]?=w.heap[k]?)→(∀ k∈S,k<w.heap.size)→RowT V E sz w' oa cap (es.set j e') S):=by
  obtain⟨xs,S',ho,rfl,hr⟩:=h
  obtain⟨v,Sj,S1,S2,xa,xb,rfl,hxa,rfl,hv,hput⟩:=RowS.focus hlen hV hr hj
  have hjl:=(List.getElem?_eq_some_iff.1 hj).1
  obtain⟨b,c,e0,-⟩:=qI4 ho (by omega)
  simp only [Value.slice.injEq] at e0
  obtain⟨rfl,-,rfl⟩:=e0
  have hvl:=hlen _ _ _ _ hv
  have hnd:=List.nodup_append.1 hS
  have hbn:b∉S1++Sj++S2:=fun hb=>hnd.2.2 b (by simp [obk]) b hb rfl
  have hSj:∀ k∈Sj,k∉S1++S2:=by
    have h2:=hnd.2.1
    rw [List.nodup_append,List.nodup_append] at h2
    obtain⟨⟨-,-,q1⟩,-,q2⟩:=h2
    intro k hk hk'
    rcases List.mem_append.1 hk' with h|h
    · exact q1 k h k hk rfl
    · exact q2 k (List.mem_append.2 (.inr hk)) k h rfl
  refine⟨b,v,Sj,S1,S2,rfl,(zS5 ho b (by simp [obk])).2,rfl,hv,fun i u hi=>?_,fun i=>World.ownsRow.frozenAt ho i,fun i u e' hi hv'=>?_,fun w' e' hv' hle hk hlt=>?_⟩
  · have hil:=(List.getElem?_eq_some_iff.1 hi).1
    refine qD7 ho ?_
    rw [List.append_assoc,List.getElem?_append_right (by omega),hxa,Nat.add_sub_cancel_left,List.getElem?_append_left hil]
    exact hi
  · have hst:=World.ownsRow.stored ho (j*sz+i) u
    refine⟨xa++v.set i u++xb,S1++Sj++S2,?_,rfl,?_⟩
    · rw [List.length_set]
      have e1:(xa++v++xb).set (j*sz+i) u=xa++v.set i u++xb:=by
        rw [List.append_assoc,List.set_append_right _ _ (by omega),hxa,Nat.add_sub_cancel_left,List.set_append_left _ _ (by omega),← List.append_assoc]
      rw [← e1]
      exact hst.1
    · have same:∀ k∈S1++Sj++S2,(w.setCell ⟨b,j*sz+i,none⟩ u).heap[k]?=w.heap[k]?:=fun k hk=>Below.heap_setCell w _ u k (by rintro rfl;exact hbn hk)
      exact hput _ e' _ (hV _ _ _ _ _ hv' fun k hk=>same k (by simp [hk])) fun k hk=>same k (by simp only [List.mem_append] at hk ⊢;rcases hk with h|h;exact .inl (.inl h);exact .inr h)
  · have same:∀ k∈[b]++(S1++S2),w'.heap[k]?=w.heap[k]?:=fun k hkm=>by
      have hin:k∈obk (some (⟨b,0,none⟩:Addr))++(S1++Sj++S2):=by
        simp only [obk,List.mem_append,List.mem_singleton] at hkm ⊢
        rcases hkm with h|h|h
        · exact .inl h
        · exact .inr (.inl (.inl h))
        · exact .inr (.inr h)
      refine hk k (hlt k hin) fun hkj=>?_
      simp only [List.mem_append,List.mem_singleton] at hkm
      rcases hkm with rfl|h
      · exact hbn (by simp [hkj])
      · exact hSj k hkj (by simpa using h)
    refine⟨xa++v++xb,S1++Sj++S2,?_,rfl,?_⟩
    · rw [List.length_set]
      exact zU4 ho fun k hk=>same k (by simp [obk] at hk;simp [hk])
    · exact hput w' e' v hv' fun k hk=>same k (by simp at hk ⊢;exact .inr hk)
end
theorem exR_row {tE:Nat} {w:World} {oa:Option Addr} {cap:Nat} {es:List Ex} {S:List Nat}:ExR tE w oa cap es S↔RowT (ExS tE) tE 6 w oa cap es S:=by
  simp only [ExR,RowT,gW7]
theorem smR_row {tE tS:Nat} {w:World} {oa:Option Addr} {cap:Nat} {es:List Sm} {S:List Nat}:SmR tE tS w oa cap es S↔RowT (SmS tE tS) tS 7 w oa cap es S:=by
  simp only [SmR,RowT,gW2]
theorem thR_row {tE tS tD tT:Nat} {w:World} {oa:Option Addr} {cap:Nat} {es:List Th} {S:List Nat}:ThR tE tS tD tT w oa cap es S↔RowT (ThS tE tS tD) tT 4 w oa cap es S:=by
  simp only [ThR,RowT,gW5]
section
variable {w0 w w':World} {M:List Nat} {hs:List Res}
variable {P:Program} {n:Fr} {L:List Oper} {Q:Exit→Act→World→Prop} {kn:Kn} {N:Act→World→Prop}
variable {d ty:Nat} {pos:String} {aft:Array Edge} {g:Option (Nat×Bool)}
theorem gF5 (st:St w0 M hs w) (i:Nat) {x y:Operand} {T b off:Nat} {v:Value} {S:List Nat} {φ ψ:World→Prop} (hw:gd L kn g=some true) (hx:evO kn x=some (.pointer (some ⟨b,off,none⟩)))
    (hy:evO kn y=some v) (h1:v.oneCell'=true) (hsz:∀ w,(Go.sizeOf T).run P w=.ok 1 w) (hi:nth hs i=some (.tree S φ)) (hb:b∈S) (hm:b∈M∨w0.heap.size≤b)
    (hc:∃ u,w.cell? ⟨b,off,none⟩=some u) (hf:w.frozen? ⟨b,off,none⟩=false) (hψ:ψ (w.setCell ⟨b,off,none⟩ v)) (hψl:Loc S ψ)
    (next:∀ w',St w0 M (zA0 hs i (.tree S ψ)) w'→vN n N kn w'):vS P n L Q (⟨none,.store T x y,ty,pos,aft,g⟩) N kn w:=by
  obtain⟨u,hc⟩:=hc
  have hcs:v.cells=#[v]:=by cases v <;> first|rfl|(simp [Value.oneCell'] at h1)
  have hc9:=Chg.setCell w ⟨b,off,none⟩ v
  have hlt:∀ k∈S,k<w.heap.size:=(st.res hi).2.1
  refine e_do hw rfl (w':=w.setCell ⟨b,off,none⟩ v) (fun a ha=>?_) (next _ (st.swap hi hc9 (fun k hk=>by simp at hk;subst hk;exact hb) (fun k hk=>by simp at hk;subst hk;exact hm) (fun k hk=>.inl hk) ⟨hψ,fun k hk=>Nat.lt_of_lt_of_le (hlt k hk) hc9.size,hψl⟩))
  simp only [execOp,ha.ev hx,ha.ev hy]
  have hst:(store ⟨b,off,none⟩ v).run P w=.ok () (w.setCell ⟨b,off,none⟩ v):=by
    cases v <;> first|(simp [Value.oneCell'] at h1;done)|simp [store,Sem.run,hc,hf]
  have key:(storeVar T ⟨b,off,none⟩ v).run P w=.ok () (w.setCell ⟨b,off,none⟩ v):=by
    simp only [storeVar,Sem.run_bind,hsz,Result.andThen_ok,hcs]
    simp [storeCells,qM4,hst]
  simp only [Instr.storeAt,Instr.sureAddr,Sem.run_bind,Sem.run_pure,Result.andThen_ok,key]
end
end Sx
/- The engine,twenty-third part: the rows of the language's trees,one of a row written over. -/
namespace Sx
open Go Go.RowKit
def Ex.setNm (s:List UInt8):Ex→Ex | .mk k op wd _ kids a=>.mk k op wd s kids a
def Ex.setAt (a:Int):Ex→Ex | .mk k op wd nm kids _=>.mk k op wd nm kids a
def Ex.setKids (kids:List Ex):Ex→Ex | .mk k op wd nm _ a=>.mk k op wd nm kids a
def Sm.setNm (s:List UInt8):Sm→Sm | .mk k _ o e b l a=>.mk k s o e b l a
def Sm.setOther (s:List UInt8):Sm→Sm | .mk k n _ e b l a=>.mk k n s e b l a
def Sm.setE (x:List Ex):Sm→Sm | .mk k n o _ b l a=>.mk k n o x b l a
def Sm.setBody (x:List Sm):Sm→Sm | .mk k n o e _ l a=>.mk k n o e x l a
def Sm.setEls (x:List Sm):Sm→Sm | .mk k n o e b _ a=>.mk k n o e b x a
def Sm.setAt (a:Int):Sm→Sm | .mk k n o e b l _=>.mk k n o e b l a
def Th.setNm (s:List UInt8) (t:Th):Th:={t with nm:=s}
def Th.setAt (a:Int) (t:Th):Th:={t with a:=a}
def Th.setLocals (l:List Dc) (t:Th):Th:={t with locals:=l}
def Th.setBody (b:List Sm) (t:Th):Th:={t with body:=b}
section
variable {tE tS tD tT:Nat} {w w':World}
structure RowAt (w:World) (b:Nat) (S:List Nat):Prop where
  mem:b∈S
  lt:b<w.heap.size
  fz:∀ i,w.frozen? ⟨b,i,none⟩=false
theorem qG5 {oa:Option Addr} {cap:Nat} {es:List Ex} {S:List Nat} {j:Nat} {e:Ex} (h:ExR tE w oa cap es S) (hS:S.Nodup) (hj:es[j]?=some e) :
    ∃ b o c Sj,oa=some ⟨b,0,none⟩∧RowAt w b S∧(∀ i u,([.int .u8 e.k,.int .u8 e.op,.int .i64 e.wd,str e.nm,.slice o e.kids.length c,.int .i64 e.a]:List Value)[i]?=some u→w.cell? ⟨b,j*6+i,none⟩=some u)∧ExR tE w o c e.kids Sj∧Sj.Nodup∧(∀ k∈Sj,k∈S)∧
      (∀ s,ExR tE (w.setCell ⟨b,j*6+3,none⟩ (str s)) oa cap (es.set j (e.setNm s)) S)∧(∀ a,ExR tE (w.setCell ⟨b,j*6+5,none⟩ (.int .i64 a)) oa cap (es.set j (e.setAt a)) S)∧
      (∀ (w':World) kids,kids.length=e.kids.length→ExR tE w' o c kids Sj→Chg Sj w w'→ExR tE w' oa cap (es.set j (e.setKids kids)) S):=by
  have hlt:∀ k∈S,k<w.heap.size:=h.lt
  obtain⟨b,v,Sj,S1,S2,ho,hbl,hSe,hv,hcell,hfz,hset,hsub⟩:=RowT.focus (V:=ExS tE) (by omega) (fun w x v S h=>h.len) (fun w w' x v S h hk=>h.kept hk) (exR_row.1 h) hS hj
  obtain⟨o,c,rfl,hk⟩:=ExS_iff.1 hv
  subst hSe
  have hSj:Sj.Nodup:=by
    have:=(List.nodup_append.1 hS).2.1
    exact(List.nodup_append.1 (List.nodup_append.1 this).1).2.1
  refine⟨b,o,c,Sj,ho,⟨by simp,hbl,hfz⟩,hcell,hk,hSj,fun k hk=>by simp [hk],fun s=>?_,fun a=>?_,fun w' kids hl hk' hc=>?_⟩
  · refine exR_row.2 (hset 3 _ _ (by omega) (ExS_iff.2 ?_))
    cases e;exact⟨o,c,rfl,hk⟩
  · refine exR_row.2 (hset 5 _ _ (by omega) (ExS_iff.2 ?_))
    cases e;exact⟨o,c,rfl,hk⟩
  · refine exR_row.2 (hsub w' _ (ExS_iff.2 ?_) hc.size (fun k hk hn=>hc.block k hk hn) hlt)
    cases e with
    | mk k op wd nm ks a=>
      simp only [Ex.kids] at hl
      refine⟨o,c,?_,hk'⟩
      simp only [Ex.setKids,Ex.k,Ex.op,Ex.wd,Ex.nm,Ex.kids,Ex.a,hl]
theorem zU0 {oa:Option Addr} {cap:Nat} {es:List Sm} {S:List Nat} {j:Nat} {e:Sm} (h:SmR tE tS w oa cap es S) (hS:S.Nodup) (hj:es[j]?=some e) :
    ∃ b oe ce ob cb ol cl Se Sb Sl,oa=some ⟨b,0,none⟩∧RowAt w b S∧(∀ i u,([.int .u8 e.k,str e.nm,str e.other,.slice oe e.e.length ce,.slice ob e.body.length cb,.slice ol e.els.length cl,.int .i64 e.a]:List Value)[i]?=some u→w.cell? ⟨b,j*7+i,none⟩=some u)∧
      ExR tE w oe ce e.e Se∧SmR tE tS w ob cb e.body Sb∧SmR tE tS w ol cl e.els Sl∧Se.Nodup∧Sb.Nodup∧Sl.Nodup∧(∀ k∈Se,k∈S)∧(∀ k∈Sb,k∈S)∧(∀ k∈Sl,k∈S)∧
      (∀ s,SmR tE tS (w.setCell ⟨b,j*7+1,none⟩ (str s)) oa cap (es.set j (e.setNm s)) S)∧(∀ s,SmR tE tS (w.setCell ⟨b,j*7+2,none⟩ (str s)) oa cap (es.set j (e.setOther s)) S)∧(∀ a,SmR tE tS (w.setCell ⟨b,j*7+6,none⟩ (.int .i64 a)) oa cap (es.set j (e.setAt a)) S)∧
      (∀ (w':World) x,x.length=e.e.length→ExR tE w' oe ce x Se→Chg Se w w'→SmR tE tS w' oa cap (es.set j (e.setE x)) S)∧
      (∀ (w':World) x,x.length=e.body.length→SmR tE tS w' ob cb x Sb→Chg Sb w w'→SmR tE tS w' oa cap (es.set j (e.setBody x)) S)∧
      (∀ (w':World) x,x.length=e.els.length→SmR tE tS w' ol cl x Sl→Chg Sl w w'→SmR tE tS w' oa cap (es.set j (e.setEls x)) S):=by
  have hlt:∀ k∈S,k<w.heap.size:=h.lt
  obtain⟨b,v,Sj,S1,S2,ho,hbl,hSe,hv,hcell,hfz,hset,hsub⟩:=RowT.focus (V:=SmS tE tS) (by omega) (fun w x v S h=>h.len) (fun w w' x v S h hk=>h.kept hk) (smR_row.1 h) hS hj
  obtain⟨oe,ce,ob,cb,ol,cl,Se,Sb,Sl,rfl,he,hb,hl,rfl⟩:=SmS_iff.1 hv
  subst hSe
  have hn1:=(List.nodup_append.1 (List.nodup_append.1 (List.nodup_append.1 hS).2.1).1).2.1
  obtain⟨ne,hn2,d1⟩:=List.nodup_append.1 hn1
  obtain⟨nb,nl,d2⟩:=List.nodup_append.1 hn2
  have len2:∀ {A B:List Nat},(∀ a∈A,∀ b∈B,a≠b)→∀ k∈B,k∉A:=fun h k hk hk'=>h k hk' k hk rfl
  refine⟨b,oe,ce,ob,cb,ol,cl,Se,Sb,Sl,ho,⟨by simp,hbl,hfz⟩,hcell,he,hb,hl,ne,nb,nl,fun k hk=>by simp [hk],fun k hk=>by simp [hk],fun k hk=>by simp [hk],fun s=>?_,fun s=>?_,fun a=>?_,fun w' x hx hx' hc=>?_,fun w' x hx hx' hc=>?_,fun w' x hx hx' hc=>?_⟩
  · refine smR_row.2 (hset 1 _ _ (by omega) (SmS_iff.2 ?_))
    cases e;exact⟨oe,ce,ob,cb,ol,cl,Se,Sb,Sl,rfl,he,hb,hl,rfl⟩
  · refine smR_row.2 (hset 2 _ _ (by omega) (SmS_iff.2 ?_))
    cases e;exact⟨oe,ce,ob,cb,ol,cl,Se,Sb,Sl,rfl,he,hb,hl,rfl⟩
  · refine smR_row.2 (hset 6 _ _ (by omega) (SmS_iff.2 ?_))
    cases e;exact⟨oe,ce,ob,cb,ol,cl,Se,Sb,Sl,rfl,he,hb,hl,rfl⟩
  · have hb':=hb.kept (w':=w') fun k hk=>hc.block k (hb.lt k hk) (fun hk'=>d1 k hk' k (by simp [hk]) rfl)
    have hl':=hl.kept (w':=w') fun k hk=>hc.block k (hl.lt k hk) (fun hk'=>d1 k hk' k (by simp [hk]) rfl)
    refine smR_row.2 (hsub w' _ (SmS_iff.2 ?_) hc.size (fun k hk hn=>hc.block k hk (fun h=>hn (by simp [h]))) hlt)
    cases e with
    | mk k nm other xe bd el a=>
      simp only [Sm.e] at hx
      refine⟨oe,ce,ob,cb,ol,cl,Se,Sb,Sl,?_,hx',hb',hl',rfl⟩
      simp only [Sm.setE,Sm.k,Sm.nm,Sm.other,Sm.e,Sm.body,Sm.els,Sm.a,hx]
  · have he':=he.kept (w':=w') fun k hk=>hc.block k (he.lt k hk) (fun hk'=>d1 k hk k (by simp [hk']) rfl)
    have hl':=hl.kept (w':=w') fun k hk=>hc.block k (hl.lt k hk) (fun hk'=>d2 k hk' k hk rfl)
    refine smR_row.2 (hsub w' _ (SmS_iff.2 ?_) hc.size (fun k hk hn=>hc.block k hk (fun h=>hn (by simp [h]))) hlt)
    cases e with
    | mk k nm other xe bd el a=>
      simp only [Sm.body] at hx
      refine⟨oe,ce,ob,cb,ol,cl,Se,Sb,Sl,?_,he',hx',hl',rfl⟩
      simp only [Sm.setBody,Sm.k,Sm.nm,Sm.other,Sm.e,Sm.body,Sm.els,Sm.a,hx]
  · have he':=he.kept (w':=w') fun k hk=>hc.block k (he.lt k hk) (fun hk'=>d1 k hk k (by simp [hk']) rfl)
    have hb':=hb.kept (w':=w') fun k hk=>hc.block k (hb.lt k hk) (fun hk'=>d2 k hk k hk' rfl)
    refine smR_row.2 (hsub w' _ (SmS_iff.2 ?_) hc.size (fun k hk hn=>hc.block k hk (fun h=>hn (by simp [h]))) hlt)
    cases e with
    | mk k nm other xe bd el a=>
      simp only [Sm.els] at hx
      refine⟨oe,ce,ob,cb,ol,cl,Se,Sb,Sl,?_,he',hb',hx',rfl⟩
      simp only [Sm.setEls,Sm.k,Sm.nm,Sm.other,Sm.e,Sm.body,Sm.els,Sm.a,hx]
theorem qB3 {oa:Option Addr} {cap:Nat} {es:List Th} {S:List Nat} {j:Nat} {e:Th} (h:ThR tE tS tD tT w oa cap es S) (hS:S.Nodup) (hj:es[j]?=some e) :
    ∃ b ol cl ob cb Sl Sb,oa=some ⟨b,0,none⟩∧RowAt w b S∧(∀ i u,([str e.nm,.slice ol e.locals.length cl,.slice ob e.body.length cb,.int .i64 e.a]:List Value)[i]?=some u→w.cell? ⟨b,j*4+i,none⟩=some u)∧
      DcR tD w ol cl e.locals Sl∧SmR tE tS w ob cb e.body Sb∧Sl.Nodup∧Sb.Nodup∧(∀ k∈Sl,k∈S)∧(∀ k∈Sb,k∈S)∧
      (∀ s,ThR tE tS tD tT (w.setCell ⟨b,j*4+0,none⟩ (str s)) oa cap (es.set j (e.setNm s)) S)∧(∀ a,ThR tE tS tD tT (w.setCell ⟨b,j*4+3,none⟩ (.int .i64 a)) oa cap (es.set j (e.setAt a)) S)∧
      (∀ (w':World) x,x.length=e.locals.length→DcR tD w' ol cl x Sl→Chg Sl w w'→ThR tE tS tD tT w' oa cap (es.set j (e.setLocals x)) S)∧
      (∀ (w':World) x,x.length=e.body.length→SmR tE tS w' ob cb x Sb→Chg Sb w w'→ThR tE tS tD tT w' oa cap (es.set j (e.setBody x)) S):=by
  have hlt:∀ k∈S,k<w.heap.size:=h.lt
  obtain⟨b,v,Sj,S1,S2,ho,hbl,hSe,hv,hcell,hfz,hset,hsub⟩:=RowT.focus (V:=ThS tE tS tD) (by omega) (fun w x v S h=>h.len) (fun w w' x v S h hk=>h.kept hk) (thR_row.1 h) hS hj
  obtain⟨ol,cl,ob,cb,Sl,Sb,rfl,hl,hb,rfl⟩:=hv
  subst hSe
  have hn1:=(List.nodup_append.1 (List.nodup_append.1 (List.nodup_append.1 hS).2.1).1).2.1
  obtain⟨nl,nb,d1⟩:=List.nodup_append.1 hn1
  refine⟨b,ol,cl,ob,cb,Sl,Sb,ho,⟨by simp,hbl,hfz⟩,hcell,hl,hb,nl,nb,fun k hk=>by simp [hk],fun k hk=>by simp [hk],fun s=>?_,fun a=>?_,fun w' x hx hx' hc=>?_,fun w' x hx hx' hc=>?_⟩
  · exact thR_row.2 (hset 0 _ _ (by omega) ⟨ol,cl,ob,cb,Sl,Sb,rfl,hl,hb,rfl⟩)
  · exact thR_row.2 (hset 3 _ _ (by omega) ⟨ol,cl,ob,cb,Sl,Sb,rfl,hl,hb,rfl⟩)
  · have hb':=hb.kept (w':=w') fun k hk=>hc.block k (hb.lt k hk) (fun hk'=>d1 k hk' k hk rfl)
    refine thR_row.2 (hsub w' (e.setLocals x) ⟨ol,cl,ob,cb,Sl,Sb,?_,hx',hb',rfl⟩ hc.size (fun k hk hn=>hc.block k hk (fun h=>hn (by simp [h]))) hlt)
    simp only [Th.setLocals,hx]
  · have hl':=hl.kept (w':=w') fun k hk=>hc.block k (hl.lt k hk) (fun hk'=>d1 k hk k hk' rfl)
    refine thR_row.2 (hsub w' (e.setBody x) ⟨ol,cl,ob,cb,Sl,Sb,?_,hl',hx',rfl⟩ hc.size (fun k hk hn=>hc.block k hk (fun h=>hn (by simp [h]))) hlt)
    simp only [Th.setBody,hx]
theorem jD {ds:List Dc} {j i:Nat} {d:Dc} {u:Value} {d':Dc} (hj:ds[j]?=some d) (hi:i<3) (he:(dcL d).set i u=dcL d'):(ds.flatMap dcL).set (j*3+i) u=(ds.set j d').flatMap dcL:=by
  induction ds generalizing j with
  | nil=>simp at hj
  | cons x r ih=>
    rw [List.flatMap_cons]
    have h3:(dcL x).length=3:=rfl
    cases j with
    | zero=>
      simp only [List.getElem?_cons_zero,Option.some.injEq] at hj
      subst hj
      rw [show 0*3+i=i by omega,List.set_append_left _ _ (by omega),he];rfl
    | succ j=>
      rw [show (j+1)*3+i=(dcL x).length+(j*3+i) by omega,List.set_append_right _ _ (by omega),Nat.add_sub_cancel_left,ih (by simpa using hj)];rfl
theorem qN4 {oa:Option Addr} {cap:Nat} {es:List Dc} {S:List Nat} {j:Nat} {e:Dc} (h:DcR tD w oa cap es S) (hj:es[j]?=some e) :
    ∃ b,oa=some ⟨b,0,none⟩∧RowAt w b S∧(∀ i u,(dcL e)[i]?=some u→w.cell? ⟨b,j*3+i,none⟩=some u)∧
      (∀ s,DcR tD (w.setCell ⟨b,j*3+0,none⟩ (str s)) oa cap (es.set j {e with nm:=s}) S)∧(∀ a,DcR tD (w.setCell ⟨b,j*3+2,none⟩ (.int .i64 a)) oa cap (es.set j {e with a:=a}) S):=by
  obtain⟨ho,rfl⟩:=h
  have hjl:=(List.getElem?_eq_some_iff.1 hj).1
  obtain⟨b,c,e0,-⟩:=qI4 ho (by omega)
  simp only [Value.slice.injEq] at e0
  obtain⟨rfl,-,rfl⟩:=e0
  have put:∀ (i:Nat) (u:Value) (e':Dc),i<3→(dcL e).set i u=dcL e'→DcR tD (w.setCell ⟨b,j*3+i,none⟩ u) (some ⟨b,0,none⟩) cap (es.set j e') (obk (some ⟨b,0,none⟩)):=fun i u e' hi he=>by
    have hst:=(World.ownsRow.stored ho (j*3+i) u).1
    rw [jD hj hi he] at hst
    refine⟨?_,rfl⟩
    rw [List.length_set];exact hst
  refine⟨b,rfl,⟨by simp [obk],(zS5 ho b (by simp [obk])).2,fun i=>World.ownsRow.frozenAt ho i⟩,fun i u hi=>?_,fun s=>put 0 _ _ (by omega) rfl,fun a=>put 2 _ _ (by omega) rfl⟩
  have hr:=zS8 (S:=fun _=>True) ho (fun _ _=>trivial)
  rcases hr with h0|⟨b',off,e1,-,-,hc⟩
  · omega
  · simp only [Option.some.injEq,Addr.mk.injEq,and_true] at e1
    obtain⟨rfl,rfl⟩:=e1
    have:=(hc j hjl).2 i u (by dsimp only;rw [qW6 hj];exact hi)
    rwa [Nat.zero_add] at this
end
theorem St.two {w:World} {S E:List Nat} {φ ψ:World→Prop} (h1:φ w) (h2:ψ w) (l1:∀ b∈S,b<w.heap.size) (l2:∀ b∈E,b<w.heap.size) (k1:Sx.Loc S φ) (k2:Sx.Loc E ψ) (hd:∀ b∈S,b∉E):St w S [.tree S φ,.tree E ψ] w:=
  ⟨Chg.refl _ _,List.pairwise_cons.2 ⟨fun x hx k hk hk'=>by
    simp only [List.mem_singleton] at hx
    subst hx
    exact hd k hk hk',List.pairwise_singleton _ _⟩,by
    intro r hr
    simp only [List.mem_cons,List.not_mem_nil,or_false] at hr
    rcases hr with rfl|rfl
    · exact⟨h1,l1,k1⟩
    · exact⟨h2,l2,k2⟩⟩
theorem St.within {w0 w w':World} {M S Sj:List Nat} {hs:List Res} {φ ψ:World→Prop} (st:St w0 M (.tree S φ::hs) w) (c:Chg Sj w w') (hj:∀ k∈Sj,k∈S) (hM:∀ k∈S,k∈M∨w0.heap.size≤k) (hψ:ψ w') (hl:Sx.Loc S ψ):St w0 M (.tree S ψ::hs) w':=by
  have h:=st.res (i:=0) rfl
  exact st.swap (i:=0) (r':=.tree S ψ) rfl c hj (fun k hk=>hM k (hj k hk)) (fun k hk=>.inl hk) ⟨hψ,fun k hk=>Nat.lt_of_lt_of_le (h.2.1 k hk) c.size,hl⟩
theorem St.withinI {w0 w w':World} {M S Sj:List Nat} {hs:List Res} {φ:World→Prop} (st:St w0 M hs w) {i:Nat} (ψ:World→Prop) (hi:nth hs i=some (.tree S φ)) (c:Chg Sj w w') (hj:∀ k∈Sj,k∈S) (hM:∀ k∈S,k∈M∨w0.heap.size≤k) (hψ:ψ w') (hl:Sx.Loc S ψ):St w0 M (zA0 hs i (.tree S ψ)) w':=by
  have h:=st.res hi
  exact st.swap (r':=.tree S ψ) hi c hj (fun k hk=>hM k (hj k hk)) (fun k hk=>.inl hk) ⟨hψ,fun k hk=>Nat.lt_of_lt_of_le (h.2.1 k hk) c.size,hl⟩
theorem St.split {w0 w:World} {M S T:List Nat} {hs:List Res} {χ φ ψ:World→Prop} (st:St w0 M (.tree (S++T) χ::hs) w) (hn:(S++T).Nodup) (h1:φ w) (h2:ψ w) (k1:Sx.Loc S φ) (k2:Sx.Loc T ψ):St w0 M (.tree S φ::.tree T ψ::hs) w:=by
  have h:=st.res (i:=0) rfl
  have hnd:=List.pairwise_cons.1 st.nodup
  refine⟨st.chg,List.pairwise_cons.2 ⟨fun x hx=>?_,List.pairwise_cons.2 ⟨fun x hx k hk=>hnd.1 x hx k (List.mem_append.2 (.inr hk)),hnd.2⟩⟩,fun x hx=>?_⟩
  · rcases List.mem_cons.1 hx with rfl|hx
    · exact fun k hk hk'=>(List.nodup_append.1 hn).2.2 k hk k hk' rfl
    · exact fun k hk=>hnd.1 x hx k (List.mem_append.2 (.inl hk))
  · rcases List.mem_cons.1 hx with rfl|hx
    · exact⟨h1,fun k hk=>h.2.1 k (List.mem_append.2 (.inl hk)),k1⟩
    · rcases List.mem_cons.1 hx with rfl|hx
      · exact⟨h2,fun k hk=>h.2.1 k (List.mem_append.2 (.inr hk)),k2⟩
      · exact st.here x (.tail _ hx)
end Sx
/- A map that counts words: its keys in the order of their birth;a range over it. -/
namespace Sx
open Go Go.RowKit
abbrev Wd:=List UInt8
structure Ents (es:List MapEntry) (ks:List Wd):Prop where
  key:es.map (·.key)=ks.map str
  val:∀ e∈es,∃ c,e.val=.int .i64 c
  born:∀ (i:Nat) (e:MapEntry),es[i]?=some e→e.born=i
theorem gJ (s t:Wd):((⟨s.toArray⟩:ByteArray) == ⟨t.toArray⟩)=decide (s=t):=by
  show (s.toArray == t.toArray)=_
  rw [Bool.eq_iff_iff];simp
section
variable {P:Program} {n:Fr} {L:List Oper} {Q:Exit→Act→World→Prop} {kn:Kn} {w0 w:World} {M:List Nat} {hs:List Res} {N:Act→World→Prop}
variable {d ty:Nat} {pos:String} {aft:Array Edge} {g:Option (Nat×Bool)}
theorem qG7 {k:Nat} (hk:P.underlying k=some .string) (em:Bool) (s:Wd) (w:World):(Instr.checkKey em 10000 k (str s)).run P w=.ok () w:=by
  show (Instr.checkKey em (9999+1) k (str s)).run P w=_
  unfold Instr.checkKey
  simp [Sem.run_bind,underlying,Sem.run,hk,Result.andThen,str]
theorem qW4 {k:Nat} (hk:P.underlying k=some .string) {s:Wd} {es:List MapEntry} {r:Option (Nat×Value)} (h:Instr.findNow .string (str s) es 0=some r) (w:World):(Instr.findKey k (str s) es).run P w=.ok r w:=by
  simp [Instr.findKey,Sem.run_bind,underlying,Sem.run,hk,Result.andThen,h]
theorem kB4 {b:Nat} {o o':Obj} (hb:w.heap[b]?=some o) (hn:∀ c e f,o≠.cells c e f):(setObj b o').run P w=.ok () (ChangeMaps.setBlock w b o')∧Chg [b] w (ChangeMaps.setBlock w b o')∧(ChangeMaps.setBlock w b o').heap[b]?=some o':=by
  have hlt:=(Array.getElem?_eq_some_iff.1 hb).1
  refine⟨?_,⟨rfl,rfl,rfl,by simp [ChangeMaps.setBlock],fun i _ hi=>?_⟩,?_⟩
  · simp only [setObj,Sem.run,hb,ChangeMaps.setBlock]
    try (cases o <;> first|rfl|exact absurd rfl (hn _ _ _))
  · simp only [ChangeMaps.setBlock];rw [Array.getElem?_setIfInBounds_ne (fun e=>hi (by simp [e]))]
  · simp only [ChangeMaps.setBlock];rw [Array.getElem?_setIfInBounds_self_of_lt hlt]
end
end Sx
/- Calls that return or panic;what a caller hands on;a function that defers;a deferred closure that recovers. -/
namespace Sx
open Go Go.RowKit
abbrev pch (v:Value):List PanicEntry:=[{v:=v,recovered:=false}]
def qP5 (P:Program) (f:FuncId) (vals:List Value) (w:World) (Φ Ψ:Value→World→Prop):Prop:=
  Calls P f vals.toArray w fun e w'=>(∃ v,e=.returned v∧Φ v w')∨∃ v,e=.panicked (pch v)∧Ψ v w'
section
variable {P:Program} {n:Fr} {L:List Oper} {Q:Exit→Act→World→Prop} {kn:Kn} {w w0:World} {M:List Nat} {hs:List Res} {rest:List Oper}
variable {d ty:Nat} {pos:String} {aft:Array Edge} {g:Option (Nat×Bool)}
variable {N:Act→World→Prop}
abbrev jM1 (n:Fr) (Q:Exit→Act→World→Prop) (v:Value) (w:World):Prop:=∀ a:Act,a.defers=n.2→Q (.panic (pch v)) a w
theorem gW6 {o:Oper} {f:FuncId} {vals:List Value} {Φ Ψ:Value→World→Prop} (hw:gd L kn o.guard=some true) (hd:zI7 n o.dst=true)
    (hrun:∀ a,K n kn a→(execOp a.eval o).run P w=.ok (.enter f vals.toArray) w)
    (c:qP5 P f vals w Φ Ψ) (pan:∀ v w',Ψ v w'→jM1 n Q v w') (next:∀ v w',Φ v w'→vN n N (put o.dst v kn) w'):vS P n L Q o N kn w:=by
  intro a ha
  rw [if_pos (ha.gd hw)]
  refine .inl ?_
  unfold Oper.wp
  rw [hrun a ha]
  refine Calls.mono c ?_
  rintro e w' (⟨v,rfl,hv⟩|⟨v,rfl,hv⟩)
  · exact next v w' hv _ (ha.put hd v)
  · exact pan v w' hv a ha.defers
theorem zD1 {f:FuncId} {args:Array Operand} {tys:Array TypeId} (vals:List Value) {Φ Ψ:Value→World→Prop} (hw:gd L kn g=some true) (hd:zI7 n (some d)=true)
    (hcall:∀ (az:Array Value) w,(callFunc f az).run P w=.ok (.enter f az) w)
    (hv:args.toList.map (evO kn)=vals.map some)
    (c:qP5 P f vals w Φ Ψ) (pan:∀ v w',Ψ v w'→jM1 n Q v w') (next:∀ v w',Φ v w'→vN n N ((d,v)::kn) w') :
    vS P n L Q ⟨some d,.call ⟨.value (.func f),args,tys⟩,ty,pos,aft,g⟩ N kn w:=
  gW6 (f:=f) (vals:=vals) hw hd (fun a ha=>by
    have hargs:=qG3 ha hv
    simp only [execOp,resolve,hargs,Act.eval]
    simp [Deferred.ofValue,invoke,hcall]) c pan next
theorem qD5 {f:FuncId} {x:Operand} {first captured:List Value} {args:Array Operand} {tys:Array TypeId} (vals:List Value) {Φ Ψ:Value→World→Prop} (hw:gd L kn g=some true) (hd:zI7 n (some d)=true)
    (hx:evO kn x=some (.func (.func f) first.toArray captured.toArray))
    (hcall:∀ (az:Array Value) w,(callFunc f az).run P w=.ok (.enter f az) w)
    (hv:args.toList.map (evO kn)=vals.map some)
    (c:qP5 P f (first++vals++captured) w Φ Ψ) (pan:∀ v w',Ψ v w'→jM1 n Q v w') (next:∀ v w',Φ v w'→vN n N ((d,v)::kn) w') :
    vS P n L Q ⟨some d,.call ⟨.value x,args,tys⟩,ty,pos,aft,g⟩ N kn w:=
  gW6 (f:=f) (vals:=first++vals++captured) hw hd (fun a ha=>by
    have hargs:=qG3 ha hv
    simp only [execOp,resolve,hargs,ha.ev hx]
    simp [Deferred.ofValue,invoke,hcall]) c pan next
theorem jC8 {o:Oper} {v:Value} (hw:gd L kn o.guard=some true) (hrun:∀ a,K n kn a→(execOp a.eval o).run P w=.halt (.panic v) w) (pan:jM1 n Q v w):vS P n L Q o N kn w:=by
  intro a ha
  rw [if_pos (ha.gd hw)]
  refine .inl ?_
  unfold Oper.wp
  rw [hrun a ha]
  exact pan a ha.defers
theorem kZ2 {x:Operand} {T:Nat} {v:Value} (hw:gd L kn g=some true) (hx:evO kn x=some (.iface T v)) (pan:jM1 n Q (.iface T v) w) {dst:Option Nat}:vS P n L Q ⟨dst,.panic x,ty,pos,aft,g⟩ N kn w:=
  jC8 hw (fun a ha=>by simp only [execOp,ha.ev hx];simp [Instr.panic,goPanic,Sem.run];try rfl) pan
theorem zN0 {m:Nat} {f:FuncId} {fn:Func} {c:Code} (vals:List Value) {Φ Ψ:Value→World→Prop} (hf:P.funcs[f]?=some fn) (hb:fn.body=some c) (hn:fn.ntmps=m) (hle:Nat.ble vals.length m=true)
    (h:vcC P (m,[]) c (bodyPost P fn fun e w'=>(∃ v,e=.returned v∧Φ v w')∨∃ v,e=.panicked (pch v)∧Ψ v w') (qN1 0 vals) w):qP5 P f vals w Φ Ψ:=gV6 hf hb hn hle h
theorem y_mki {T:Nat} {x:Operand} {v:Value} {fs:Array Field} (hx:evO kn x=some v) (ht:P.underlying T=some (.struct fs)):Y P n kn w ⟨some d,.makeInterface T x,ty,pos,aft,g⟩ (.iface T v):=fun a ha=>by
  simp only [execOp,ha.ev hx]
  simp [Instr.makeInterface,run_underlying ht]
theorem jF9 {o:Oper} {D:Deferred} {m:Nat} {ds:List Deferred} (hn:n=(m,ds)) (hw:gd L kn o.guard=some true) (hd:o.dst=none)
    (hrun:∀ a,K n kn a→(execOp a.eval o).run P w=.ok (.defer D) w) (next:vN (m,D::ds) N kn w):vS P n L Q o N kn w:=by
  subst hn
  intro a ha
  rw [if_pos (ha.gd hw)]
  refine .inl ?_
  unfold Oper.wp
  rw [hrun a ha]
  have h:=next {a with defers:=D::a.defers} ⟨by simp [ha.defers],ha.size,fun t v ht=>ha.get t v ht⟩
  simpa [Oper.upon,Act.put,hd] using h
theorem kT4 {m:Nat} {f:FuncId} {fn:Func} {c:Code} {vals:List Value} {R:Ending→World→Prop} (hf:P.funcs[f]?=some fn) (hb:fn.body=some c) (hn:fn.ntmps=m) (hle:Nat.ble vals.length m=true)
    (h:vcC P (m,[]) c (bodyPostD P fn R) (qN1 0 vals) w):Calls P f vals.toArray w R:=by
  refine calls_of_wp_defers hf hb (h _ ?_)
  have hle':vals.length≤m:=by simpa [Nat.ble_eq] using hle
  refine⟨rfl,?_,?_⟩
  · simp only [Array.size_append,List.size_toArray,Array.size_replicate,hn];omega
  · intro t v ht
    obtain⟨h1,h2⟩:=qJ8 vals 0 t v ht
    have hlt:t<vals.length:=by
      simp only [Nat.sub_zero] at h2
      exact(List.getElem?_eq_some_iff.1 h2).1
    simp only [Nat.sub_zero] at h2
    rw [Array.getElem?_append_left (by simpa using hlt)]
    simpa using h2
def kM3 (P:Program) (f:FuncId) (args:Array Value) (w:World) (Φ:World→Prop):Prop:=
  CallsD P f args .returning w fun e u' w'=>(∃ v,e=.returned v)∧u'=.returning∧Φ w'
def gV3 (P:Program) (f:FuncId) (args:Array Value) (v:Value) (w:World) (Φ:World→Prop):Prop:=
  CallsD P f args (.panicking (pch v)) w fun e u' w'=>(∃ v,e=.returned v)∧u'=.panicking [{v:=v,recovered:=true}]∧Φ w'
theorem jE2 {m:Nat} {fn:Func} {R:Ending→World→Prop} {e:Exit} {f:FuncId} {cap:List Value} {Φ:World→Prop} (he:e=.ret∨e=.normal)
    (hcall:∀ (az:Array Value) w,(callFunc f az).run P w=.ok (.enter f az) w)
    (h:kM3 P f cap.toArray w Φ) (hres:∀ w',Φ w'→∃ v,(∀ a,K (m,[⟨.fn (.func f) cap.toArray,#[]⟩]) kn a→(results fn a.tmps).run P w'=.ok v w')∧R (.returned v) w') :
    vcQ (m,[⟨.fn (.func f) cap.toArray,#[]⟩]) (bodyPostD P fn R) e kn w:=by
  intro a ha
  have key:Leaves P fn a.tmps R a.defers .returning w:=by
    rw [ha.defers]
    refine leaves_cons (f:=f) (args:=cap.toArray) (by simp) (by simp [invoke,hcall]) (h.mono ?_)
    rintro e u' w' ⟨⟨v,rfl⟩,rfl,hΦ⟩
    obtain⟨r,h1,h2⟩:=hres w' hΦ
    exact⟨r,h1 a ha,h2⟩
  rcases he with rfl|rfl <;> exact key
abbrev entF (kvs:List (Wd×Value)):List MapEntry:=kvs.zipIdx.map fun p=>{key:=str p.1.1,val:=p.1.2,born:=p.2}
abbrev kF5 (kvs:List (Wd×Value)):Obj:=.map (entF kvs).toArray kvs.length
def qM1:List (Wd×Value)→Wd→Option Value
  | [],_=>none
  | (k,v)::r,s=>if s=k then some v else qM1 r s
theorem gA7 (s:Wd):∀ (kvs:List (Wd×Value)) (j i:Nat),∃ m,Instr.findNow .string (str s) ((kvs.zipIdx j).map fun p=>({key:=str p.1.1,val:=p.1.2,born:=p.2}:MapEntry)) i=some ((qM1 kvs s).map fun v=>(m,v))
  | [],j,i=>⟨0,rfl⟩
  | (k,v)::r,j,i=>by
    by_cases hk:s=k
    · subst hk
      exact⟨i,by simp [Instr.findNow,Instr.sameNow,gJ,qM1]⟩
    · obtain⟨m,hm⟩:=gA7 s r (j+1) (i+1)
      refine⟨m,?_⟩
      simp only [List.zipIdx_cons,List.map_cons,Instr.findNow,Instr.sameNow,gJ,hk,decide_false,qM1,if_false]
      exact hm
theorem e_mkF (st:St w0 M hs w) {T:Nat} (hw:gd L kn g=some true) (hd:zI7 n (some d)=true)
    (next:∀ b w',w0.heap.size≤b→St w0 M (.blk b (kF5 [])::hs) w'→vN n N ((d,.map (some b))::kn) w'):vS P n L Q (⟨some d,.makeMap T none,ty,pos,aft,g⟩) N kn w:=
  zU6 (v:=.map (some w.heap.size)) (w':=w.alloc (.map #[] 0)) hw hd (fun a ha=>by
    simp only [execOp,Option.map_none];rfl) (next _ _ st.chg.size (st.pushR (Chg.alloc w _) (gE0 w _) (by simp [Res.at?])))
theorem kH (st:St w0 M hs w) (i:Nat) {T k e b:Nat} {x y z:Operand} {s:Wd} {v:Value} {kvs:List (Wd×Value)} (hw:gd L kn g=some true) (hx:evO kn x=some (.map (some b))) (hy:evO kn y=some (str s)) (hv:evO kn z=some v)
    (hi:nth hs i=some (.blk b (kF5 kvs))) (hm:b∈M∨w0.heap.size≤b) (ht:P.underlying T=some (.map k e)) (hk:P.underlying k=some .string) (hno:qM1 kvs s=none)
    (next:∀ w',St w0 M (zA0 hs i (.blk b (kF5 (kvs++[(s,v)])))) w'→vN n N kn w'):vS P n L Q (⟨none,.insert T x y z,ty,pos,aft,g⟩) N kn w:=by
  have hb:w.heap[b]?=some (kF5 kvs):=st.res hi
  obtain⟨m,hf⟩:=gA7 s kvs 0 0
  rw [hno] at hf
  simp only [Option.map_none] at hf
  obtain⟨q1,q2,q3⟩:=kB4 (P:=P) (o':=kF5 (kvs++[(s,v)])) hb (by simp)
  have hent:(entF kvs).toArray.push {key:=str s,val:=v,born:=kvs.length}=(entF (kvs++[(s,v)])).toArray:=by
    simp [entF,List.zipIdx_append]
  refine e_do (w':=ChangeMaps.setBlock w b (kF5 (kvs++[(s,v)]))) hw rfl (fun a ha=>?_) (next _ (st.turn hi rfl rfl q2 hm q3))
  have hfk:=qW4 (P:=P) hk hf w
  have hrun:(Instr.mapUpdate T (.map (some b)) (str s) v).run P w=.ok () (ChangeMaps.setBlock w b (kF5 (kvs++[(s,v)]))):=by
    have e1:(kvs++[(s,v)]).length=kvs.length+1:=by simp
    simp only [kF5,← hent,e1] at q1 ⊢
    simp [Instr.mapUpdate,getObj,Sem.run_bind,underlying,Sem.run,ht,hb,Result.andThen,qG7 hk,hfk]
    simpa using q1
  simp only [execOp,ha.ev hx,ha.ev hy,ha.ev hv,Sem.run_bind,hrun,Result.andThen_ok];rfl
theorem e_lkF (st:St w0 M hs w) (i:Nat) {T k e b:Nat} {x y:Operand} {s:Wd} {z:Value} {kvs:List (Wd×Value)} (hw:gd L kn g=some true) (hd:zI7 n (some d)=true) (hx:evO kn x=some (.map (some b))) (hy:evO kn y=some (str s))
    (hi:nth hs i=some (.blk b (kF5 kvs))) (ht:P.underlying T=some (.map k e)) (hk:P.underlying k=some .string) (hz:∀ w,(zeroValue e).run P w=.ok z w)
    (next:vN n N ((d,.tuple [(qM1 kvs s).getD z,.bool (qM1 kvs s).isSome].toArray)::kn) w):vS P n L Q (⟨some d,.lookup T x y true,ty,pos,aft,g⟩) N kn w:=by
  have hb:w.heap[b]?=some (kF5 kvs):=st.res hi
  obtain⟨m,hf⟩:=gA7 s kvs 0 0
  refine zU6 (v:=.tuple [(qM1 kvs s).getD z,.bool (qM1 kvs s).isSome].toArray) (w':=w) hw hd (fun a ha=>?_) next
  have hfk:=qW4 (P:=P) hk hf w
  have hrun:(Instr.lookup T (.map (some b)) (str s) true).run P w=.ok (.tuple [(qM1 kvs s).getD z,.bool (qM1 kvs s).isSome].toArray) w:=by
    cases hg:qM1 kvs s with
    | none=>
      rw [hg] at hfk
      simp [Instr.lookup,getObj,Sem.run_bind,underlying,Sem.run,ht,hb,Result.andThen,qG7 hk,hfk,hz]
    | some u=>
      rw [hg] at hfk
      simp [Instr.lookup,getObj,Sem.run_bind,underlying,Sem.run,ht,hb,Result.andThen,qG7 hk,hfk]
  simp only [execOp,ha.ev hx,ha.ev hy,Sem.run_bind,hrun,Result.andThen_ok];rfl
end
end Sx
/- A function that defers a closure that recovers. -/
namespace Sx
open Go Go.RowKit
section
variable {P:Program} {n:Fr} {L:List Oper} {Q:Exit→Act→World→Prop} {kn:Kn} {w w0:World} {M:List Nat} {hs:List Res} {rest:List Oper}
variable {d ty:Nat} {pos:String} {aft:Array Edge} {g:Option (Nat×Bool)}
variable {N:Act→World→Prop}
abbrev PanK (n:Fr) (kn:Kn) (Q:Exit→Act→World→Prop) (v:Value) (w:World):Prop:=∀ a:Act,K n kn a→Q (.panic (pch v)) a w
theorem jD7 {f:FuncId} {args:Array Operand} {tys:Array TypeId} (vals:List Value) {Φ Ψ:Value→World→Prop} (hw:gd L kn g=some true) (hd:zI7 n (some d)=true)
    (hcall:∀ (az:Array Value) w,(callFunc f az).run P w=.ok (.enter f az) w)
    (hv:args.toList.map (evO kn)=vals.map some)
    (c:qP5 P f vals w Φ Ψ) (pan:∀ v w',Ψ v w'→PanK n kn Q v w') (next:∀ v w',Φ v w'→vN n N ((d,v)::kn) w') :
    vS P n L Q ⟨some d,.call ⟨.value (.func f),args,tys⟩,ty,pos,aft,g⟩ N kn w:=by
  intro a ha
  rw [if_pos (ha.gd hw)]
  refine .inl ?_
  unfold Oper.wp
  have hrun:(execOp a.eval ⟨some d,.call ⟨.value (.func f),args,tys⟩,ty,pos,aft,g⟩).run P w=.ok (.enter f vals.toArray) w:=by
    have hargs:=qG3 ha hv
    simp only [execOp,resolve,hargs,Act.eval]
    simp [Deferred.ofValue,invoke,hcall]
  rw [hrun]
  refine Calls.mono c ?_
  rintro e w' (⟨v,rfl,hv⟩|⟨v,rfl,hv⟩)
  · exact next v w' hv _ (ha.put hd v)
  · exact pan v w' hv a ha
theorem kZ5 {x:Operand} {f:FuncId} {cap:List Value} {tys:Array TypeId} {m:Nat} {ds:List Deferred} (hn:n=(m,ds)) (hw:gd L kn g=some true)
    (hx:evO kn x=some (.func (.func f) #[] cap.toArray)) (next:vN (m,⟨.fn (.func f) cap.toArray,#[]⟩::ds) N kn w) :
    vS P n L Q ⟨none,.defer ⟨.value x,#[],tys⟩,ty,pos,aft,g⟩ N kn w:=
  jF9 hn hw rfl (fun a ha=>by
    simp only [execOp,resolve,ha.ev hx]
    simp [Deferred.ofValue]) next
theorem gY8 {m:Nat} {fn:Func} {R:Ending→World→Prop} {e:Exit} {v:Value} (he:e=.ret∨e=.normal) (hr:∀ a,K (m,[]) kn a→(results fn a.tmps).run P w=.ok v w) (hR:R (.returned v) w):vcQ (m,[]) (bodyPostD P fn R) e kn w:=by
  intro a ha
  have key:Leaves P fn a.tmps R a.defers .returning w:=by rw [ha.defers];exact⟨v,hr a ha,hR⟩
  rcases he with rfl|rfl <;> exact key
theorem qU0 {fn:Func} {r1 r2 r3:ResultVar} {v1 v2 v3:Value} {m:Nat} {ds:List Deferred} (st:St w0 M hs w) (hf:fn.results=#[r1,r2,r3]) (h1:ResV P hs kn r1 v1) (h2:ResV P hs kn r2 v2) (h3:ResV P hs kn r3 v3) :
    ∀ a,K (m,ds) kn a→(results fn a.tmps).run P w=.ok (.tuple #[v1,v2,v3]) w:=fun a ha=>by
  simp [qB6,hf,h1.run st ha,h2.run st ha,h3.run st ha]
theorem jF4 {m:Nat} {f:FuncId} {fn:Func} {c:Code} (vals:List Value) {Φ:Value→World→Prop} (hf:P.funcs[f]?=some fn) (hb:fn.body=some c) (hn:fn.ntmps=m) (hle:Nat.ble vals.length m=true)
    (h:vcC P (m,[]) c (bodyPostD P fn fun e w'=>∃ v,e=.returned v∧Φ v w') (qN1 0 vals) w):Ret P f vals w Φ:=kT4 hf hb hn hle h
theorem kP4 {m:Nat} {fn:Func} {R:Ending→World→Prop} {f:FuncId} {cap:List Value} {v:Value} {Φ:World→Prop}
    (hcall:∀ (az:Array Value) w,(callFunc f az).run P w=.ok (.enter f az) w)
    (h:gV3 P f cap.toArray v w Φ) (hres:∀ w',Φ w'→∃ r,(∀ a,K (m,[⟨.fn (.func f) cap.toArray,#[]⟩]) kn a→(results fn a.tmps).run P w'=.ok r w')∧R (.returned r) w') :
    PanK (m,[⟨.fn (.func f) cap.toArray,#[]⟩]) kn (bodyPostD P fn R) v w:=by
  intro a ha
  show Leaves P fn a.tmps R a.defers (.panicking (pch v)) w
  rw [ha.defers]
  refine leaves_cons (f:=f) (args:=cap.toArray) (by simp) (by simp [invoke,hcall]) (h.mono ?_)
  rintro e u' w' ⟨⟨x,rfl⟩,rfl,hΦ⟩
  obtain⟨r,h1,h2⟩:=hres w' hΦ
  exact⟨r,h1 a ha,h2⟩
theorem jL0 (st:St w0 M hs w) {x:Operand} {T:Nat} {v:Value} {l:List Value} (hw:gd L kn g=some true) (hd:zI7 n (some d)=true)
    (hx:evO kn x=some v) (hl:v.cells.toList=l)
    (next:∀ b w',b=w.heap.size→w0.heap.size≤b→St w0 M (.blk b (.cells l.toArray T (0,0))::hs) w'→vN n N ((d,.pointer (some ⟨b,0,none⟩))::kn) w'):vS P n L Q (⟨some d,.box T x,ty,pos,aft,g⟩) N kn w:=
  kM1 st (v:=.pointer (some ⟨w.heap.size,0,none⟩)) (l:=l) (E:=T) hw hd (fun a ha=>by
    have:v.cells=l.toArray:=by rw [← hl]
    simp only [execOp,ha.ev hx,Instr.box,← this]
    rfl) (fun b w' e hb st'=>by subst e;exact next _ w' rfl hb st')
theorem y_ta {x:Operand} {T U:Nat} {v:Value} {fs:Array Field} (hx:evO kn x=some (.iface T v)) (ht:P.underlying T=some (.struct fs)):Y P n kn w ⟨some d,.typeAssert x U T false,ty,pos,aft,g⟩ v:=fun a ha=>by
  simp only [execOp,ha.ev hx]
  simp [Instr.typeAssert,run_underlying ht]
theorem kS1 {T i off sz:Nat} {x:Operand} {cs vs:List Value} {fs:Array Field} {f:Field} (hx:evO kn x=some (.agg cs.toArray)) (ht:P.underlying T=some (.struct fs)) (hf:nth fs.toList i=some f) (ho:f.offset=off)
    (ha:∀ w,(Go.isAgg f.type).run P w=.ok true w) (hs:∀ w,(Go.sizeOf f.type).run P w=.ok sz w) (hv:gH5 sz (gM0 cs off)=some vs):Y P n kn w ⟨some d,.field T x i,ty,pos,aft,g⟩ (.agg vs.toArray):=fun a hk=>by
  subst ho
  rw [zL8] at hf
  have hf':fs[i]?=some f:=by simpa using hf
  simp only [execOp,hk.ev hx]
  simp [Instr.field,run_underlying ht,hf',asAgg,kM9 ha hs hv]
end
theorem qF0 {P:Program} {fn:Func} {c0:Frame} {cs cs':List Frame} {R:Ending→FrameMode→World→Prop}:okQ (fun e a w=>bodyPostS P fn c0 cs R e a cs' w):=fun c a a' w h hq=>by
  obtain⟨h1,h2⟩:=hq
  exact⟨h▸h1,h2⟩
theorem St.of3 {w:World} {b c e:Nat} {o p q:Obj} (M:List Nat) (h:w.heap[b]?=some o) (h':w.heap[c]?=some p) (h'':w.heap[e]?=some q) (h1:b≠c) (h2:b≠e) (h3:c≠e):St w M [.blk b o,.blk c p,.blk e q] w:=
  ⟨Chg.refl M w,List.pairwise_cons.2 ⟨by simp [Res.at?,h1,h2],List.pairwise_cons.2 ⟨by simp [Res.at?,h3],List.pairwise_singleton _ _⟩⟩,by simp [Res.holds,h,h',h'']⟩
theorem K.of {m:Nat} {kn:Kn} {t:Array Value} (hs:t.size=m) (h:∀ i v,find kn i=some v→t[i]?=some v):K (m,[]) kn {tmps:=t,defers:=[]}:=⟨rfl,hs,h⟩
theorem kY2 {P:Program} {n:Fr} {c:Code} {Q:Exit→Act→World→Prop} {kn:Kn} {a:Act} {w:World} (ha:K n kn a) (h:vcC P n c Q kn w):c.wp P Q a w:=h a ha
def jB7 (Q:Exit→Act→World→Prop):Exit→Act→World→Prop:=fun e a w=>(match e with | .panic _=>False|_=>True)∧Q e a w
theorem qG0 {Q:Exit→Act→World→Prop}:okQ (jB7 Q):=fun _ _ _ _ _ hq=>hq.1.elim
theorem gX9 {P:Program} {n:Fr} {c:Code} {Q:Exit→Act→World→Prop} {kn:Kn} {w:World} (h:vcC P n c (jB7 Q) kn w):vcC P n c Q kn w:=fun a ha=>Code.wp_mono (fun _ _ _ h=>h.2) (h a ha)
theorem gU6 {n:Fr} {Q:Exit→Act→World→Prop} {kn:Kn} {w:World} (h:vcQ n Q .normal kn w):vcQ n (jB7 Q) .normal kn w:=fun a ha=>⟨trivial,h a ha⟩
end Sx
/- Short names for the regions that are drawn. -/
namespace Sx
open Go Go.RowKit
abbrev Yt (n:Nat):Nat×Bool:=(n,true)
abbrev Nt (n:Nat):Nat×Bool:=(n,false)
section
variable {P:Program} {n:Fr} {L:List Oper} {Q:Exit→Act→World→Prop} {kn:Kn} {w w0:World} {M:List Nat} {hs':List Res} {id:Nat}
theorem vdr (hm:P.follows .mixedOrders=true) (plan:List (Nat×Bool)) (hs:List Res) (st:St w0 M hs' w) (h:∀ w',St w0 M hs' w'→St w0 M hs w'→vP P n L Q (fun w=>St w0 M hs w) plan kn w')
    (hsub:hs.Sublist hs':=by repeat (first|exact sl0|apply sl1|apply sl2)) (hsel:Region.noSelect L.toArray=true:=by kernel_rfl) (hQ:okQ Q:=by repeat (first|exact qG0|exact qN0|exact qF0|refine qL8 ?_|refine qH ?_)) (hlen:plan.length=L.length:=by exact rfl) (hplan:qD6 L.toArray plan (Array.replicate L.length false)=true:=by kernel_rfl) :
    vcC P n (.region id L.toArray true) Q kn w:=kT6 hm plan _ (st.drop hsub) hsel hQ hlen hplan fun w' c=>h w' (st.call0 c) ((st.call0 c).drop hsub)
theorem qJ5 (hm:P.follows .mixedOrders=true) (plan:List (Nat×Bool)) (st:St w0 M hs' w) (h:∀ w',St w0 M hs' w'→St w0 M hs' w'→vP P n L Q (fun w=>St w0 M hs' w) plan kn w')
    (hsel:Region.noSelect L.toArray=true:=by kernel_rfl) (hQ:okQ Q:=by repeat (first|exact qG0|exact qN0|exact qF0|refine qL8 ?_|refine qH ?_)) (hlen:plan.length=L.length:=by exact rfl) (hplan:qD6 L.toArray plan (Array.replicate L.length false)=true:=by kernel_rfl) :
    vcC P n (.region id L.toArray true) Q kn w:=kT6 hm plan _ st hsel hQ hlen hplan fun w' c=>h w' (st.call0 c) (st.call0 c)
theorem ddr (hm:P.follows .mixedOrders=true) (plan:Pl) (hs:List Res) (st:St w0 M hs' w) (h:∀ w',St w0 M hs' w'→St w0 M hs w'→vD P n L Q (fun w=>St w0 M hs w) plan kn w')
    (hsub:hs.Sublist hs':=by repeat (first|exact sl0|apply sl1|apply sl2)) (hsel:Region.noSelect L.toArray=true:=by kernel_rfl) (hQ:okQ Q:=by repeat (first|exact qG0|exact qN0|exact qF0|refine qL8 ?_|refine qH ?_)) (hlen:plan.len=L.length:=by exact rfl) (hplan:gU2 L.toArray plan (Array.replicate L.length false)=true:=by kernel_rfl) :
    vcC P n (.region id L.toArray true) Q kn w:=kR2 hm plan _ (st.drop hsub) hsel hQ hlen hplan fun w' c=>h w' (st.call0 c) ((st.call0 c).drop hsub)
theorem jJ1 (hm:P.follows .mixedOrders=true) (plan:Pl) (st:St w0 M hs' w) (h:∀ w',St w0 M hs' w'→St w0 M hs' w'→vD P n L Q (fun w=>St w0 M hs' w) plan kn w')
    (hsel:Region.noSelect L.toArray=true:=by kernel_rfl) (hQ:okQ Q:=by repeat (first|exact qG0|exact qN0|exact qF0|refine qL8 ?_|refine qH ?_)) (hlen:plan.len=L.length:=by exact rfl) (hplan:gU2 L.toArray plan (Array.replicate L.length false)=true:=by kernel_rfl) :
    vcC P n (.region id L.toArray true) Q kn w:=kR2 hm plan _ st hsel hQ hlen hplan fun w' c=>h w' (st.call0 c) (st.call0 c)
theorem kdr (hm:P.follows .mixedOrders=true) (plan:List (Nat×Bool)) (s:Nat) (hs:List Res) (st:St w0 M hs' w) (h:∀ w',St w0 M hs' w'→St w0 M hs w'→vK P n L Q s (fun w=>St w0 M hs w) false plan kn w')
    (hsub:hs.Sublist hs':=by repeat (first|exact sl0|apply sl1|apply sl2)) (hsel:Region.noSelect L.toArray=true:=by kernel_rfl) (hQ:okQ Q:=by repeat (first|exact qG0|exact qN0|exact qF0|refine qL8 ?_|refine qH ?_)) (hlen:plan.length=L.length:=by exact rfl) (hplan:qD6 L.toArray plan (Array.replicate L.length false)=true:=by kernel_rfl) (hss:Nat.blt s L.length=true:=by exact rfl) :
    vcC P n (.region id L.toArray true) Q kn w:=jH2 hm plan s _ (st.drop hsub) hsel hQ hlen hplan hss fun w' c=>h w' (st.call0 c) ((st.call0 c).drop hsub)
end
section
variable {w0 w:World} {M:List Nat} {hs:List Res} {P:Program} {n:Fr} {kn:Kn} {d ty:Nat} {pos:String} {aft:Array Edge} {g:Option (Nat×Bool)}
theorem ybd {T:Nat} {parts:Array (Nat×Operand)} (r:Value) (vals:List (Nat×Value)) (hv:parts.toList.map (fun p=>(evO kn p.2).map (p.1,·))=vals.map some:=by exact rfl)
    (hrun:∀ w,(Instr.build T vals.toArray).run P w=.ok r w:=by intro w;simp [Instr.build,go_sem] <;> repeat' constructor):Y P n kn w ⟨some d,.build T parts,ty,pos,aft,g⟩ r:=jK r vals hv hrun
theorem yin (z:Int) {x y:Operand} {a b:Int} {T U:Nat} (hx:evO kn x=some (.int .i64 a):=by exact rfl) (hy:evO kn y=some (.int .i64 b):=by exact rfl) (hv:a+b=z:=by omega) (lo:-9223372036854775808≤z:=by omega) (hi:z≤9223372036854775807:=by omega):Y P n kn w ⟨some d,.binOp .add T x y U,ty,pos,aft,g⟩ (.int .i64 z):=zK2 hx hy hv lo hi
theorem vr1 {m:Nat} {fn:Func} {r1:ResultVar} {v1:Value} {e:Exit} {Φ:Value→World→Prop} (st:St w0 M hs w) (hf:fn.results=#[r1]) (hR:Φ v1 w) (h1:ResV P hs kn r1 v1:=by exact .tmp rfl) (he:e=.ret∨e=.normal:=by first|exact .inl rfl|exact .inr rfl) :
    vcQ (m,[]) (bodyPost P fn fun e w=>∃ v,e=.returned v∧Φ v w) e kn w:=zB7 st he hf h1 ⟨_,rfl,hR⟩
theorem St.rs (st:St w0 M hs w) (i:Nat) {r:Res} (h:nth hs i=some r:=by exact rfl):r.holds w0.heap.size w:=st.res h
theorem St.sm {S:Nat→Prop} (st:St w0 [] hs w):Same S w0 w:=Same.of_nil st.chg
end
end Sx
