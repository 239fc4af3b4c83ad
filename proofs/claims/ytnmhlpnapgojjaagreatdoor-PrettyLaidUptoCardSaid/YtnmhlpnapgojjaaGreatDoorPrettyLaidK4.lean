/- A part of the proof: contracts of functions and plain laws; each theorem says its own conditions. -/
import Derived.Test.YtnmhlpnapgojjaaGreatDoorPrettyLaidAl
import Derived.Test.YtnmhlpnapgojjaaGreatDoorPrettyLaidK1
import Derived.Test.YtnmhlpnapgojjaaGreatDoorPrettyLaidK3
import Derived.Test.YtnmhlpnapgojjaaGreatDoorPrettyLaidK2
set_option linter.unusedVariables false
set_option linter.unusedSimpArgs false
namespace Go.Proofs.YtnmhlpnapgojjaaGreatDoor
open Go.RowKit Sx LexS _root_.Go.Proofs.Tryz
theorem zR2 {e:Ex} {d:Nat} (h:zB9 e d=true):d≤64:=by
 cases e;unfold zB9 at h;simp only [Bool.and_eq_true,decide_eq_true_eq] at h;exact h.1
theorem qK3:∀ {l:List Sm} {d j:Nat} {s:Sm},zE3 l d=true→l[j]?=some s→zH9 s d=true
 | [],d,j,s,_,h=>by simp at h
 | x::r,d,0,s,h,hj=>by
  simp only [List.getElem?_cons_zero,Option.some.injEq] at hj
  subst hj
  simp only [zE3,Bool.and_eq_true] at h
  exact h.1
 | x::r,d,j+1,s,h,hj=>by
  simp only [zE3,Bool.and_eq_true] at h
  exact qK3 h.2 (by simpa using hj)
theorem qR2:∀ {l:List Sm} {d j:Nat} {s:Sm},zH9 s d=false→l[j]?=some s→zE3 l d=false
 | [],d,j,s,_,h=>by simp at h
 | x::r,d,0,s,h,hj=>by
  simp only [List.getElem?_cons_zero,Option.some.injEq] at hj
  subst hj
  simp [zE3,h]
 | x::r,d,j+1,s,h,hj=>by
  simp [zE3,qR2 h (by simpa using hj:r[j]?=some s)]
theorem RowC.at {w:World} {S:Nat→Prop} {sz n:Nat} {oa:Option Addr} {vs:Nat→List Value} (h:RowC w S sz oa n vs) (hn:0<n) :
    ∃ b off,oa=some ⟨b,off,none⟩∧S b∧b<w.heap.size∧∀ j,j<n→(vs j).length=sz∧∀ i v,(vs j)[i]?=some v→w.cell? ⟨b,off+j*sz+i,none⟩=some v:=by
 rcases h with h|h;omega;exact h
abbrev szo {α:Type} [SizeOf α] (x:α):Nat:=SizeOf.sizeOf x
theorem gO8 {k op wd:Int} {nm:List UInt8} {kids:List Ex} {a:Int}:szo kids<szo (Ex.mk k op wd nm kids a):=by
 simp only [szo,Ex.mk.sizeOf_spec];omega
theorem zF2 {α:Type} [SizeOf α] {l:List α} {j:Nat} {x:α} (h:l[j]?=some x):szo x<szo l:=List.sizeOf_lt_of_mem (List.mem_of_getElem? h)
theorem sm_size {k:Int} {nm other:List UInt8} {e:List Ex} {body els:List Sm} {a:Int}:szo body<szo (Sm.mk k nm other e body els a)∧szo els<szo (Sm.mk k nm other e body els a):=by
 simp only [szo,Sm.mk.sizeOf_spec];omega
section
variable {w w':World} {S:Nat→Prop} {M:List Nat}
abbrev exL (e:Ex) (oa:Option Addr) (cap:Nat):List Value:=[.int .u8 e.k,.int .u8 e.op,.int .i64 e.wd,str e.nm,.slice oa e.kids.length cap,.int .i64 e.a]
theorem ExV.inv {e:Ex} {l:List Value} (h:ExV w S e l):∃ oa cap,l=exL e oa cap∧ExRow w S oa e.kids:=by
 cases h with
 | mk vs hr hk=>exact⟨_,_,rfl,vs,hr,hk⟩
theorem ExRow.at {oa:Option Addr} {es:List Ex} (h:ExRow w S oa es) (hn:0<es.length):∃ b off,oa=some ⟨b,off,none⟩∧S b∧b<w.heap.size∧
    ∀ j x,es[j]?=some x→∃ o c,ExV w S x (exL x o c)∧ExRow w S o x.kids∧∀ i v,(exL x o c)[i]?=some v→w.cell? ⟨b,off+j*6+i,none⟩=some v:=by
 obtain⟨vs,hr,hk⟩:=h;obtain⟨b,off,e,hb,hl,hc⟩:=RowC.at hr hn;refine⟨b,off,e,hb,hl,fun j x hx=>?_⟩;have hx':=hk j x hx;obtain⟨o,c,e2,hr2⟩:=ExV.inv hx';have:=(hc j (List.getElem?_eq_some_iff.1 hx).1).2;rw [e2] at hx' this;exact⟨o,c,hx',hr2,this⟩
abbrev smL (s:Sm) (oe ob ol:Option Addr) (ce cb cl:Nat):List Value:=[.int .u8 s.k,str s.nm,str s.other,.slice oe s.e.length ce,.slice ob s.body.length cb,.slice ol s.els.length cl,.int .i64 s.a]
theorem SmV.inv {s:Sm} {l:List Value} (h:SmV w S s l):∃ oe ob ol ce cb cl,l=smL s oe ob ol ce cb cl∧ExRow w S oe s.e∧SmRow w S ob s.body∧SmRow w S ol s.els:=by
 cases h with
 | mk vb vl he hb hbk hl hlk=>exact⟨_,_,_,_,_,_,rfl,he,⟨vb,hb,hbk⟩,⟨vl,hl,hlk⟩⟩
theorem SmRow.at {oa:Option Addr} {es:List Sm} (h:SmRow w S oa es) (hn:0<es.length):∃ b off,oa=some ⟨b,off,none⟩∧S b∧b<w.heap.size∧
    ∀ j s,es[j]?=some s→∃ oe ob ol ce cb cl,SmV w S s (smL s oe ob ol ce cb cl)∧ExRow w S oe s.e∧SmRow w S ob s.body∧SmRow w S ol s.els∧∀ i v,(smL s oe ob ol ce cb cl)[i]?=some v→w.cell? ⟨b,off+j*7+i,none⟩=some v:=by
 obtain⟨vs,hr,hk⟩:=h;obtain⟨b,off,e,hb,hl,hc⟩:=RowC.at hr hn;refine⟨b,off,e,hb,hl,fun j x hx=>?_⟩;have hx':=hk j x hx;obtain⟨oe,ob,ol,ce,cb,cl,e2,h1,h2,h3⟩:=SmV.inv hx';have:=(hc j (List.getElem?_eq_some_iff.1 hx).1).2;rw [e2] at hx' this;exact⟨oe,ob,ol,ce,cb,cl,hx',h1,h2,h3,this⟩
theorem DcRow.at {oa:Option Addr} {ds:List Dc} (h:DcRow w S oa ds) (hn:0<ds.length):∃ b off,oa=some ⟨b,off,none⟩∧S b∧b<w.heap.size∧
    ∀ j x,ds[j]?=some x→∀ i v,(dcL x)[i]?=some v→w.cell? ⟨b,off+j*3+i,none⟩=some v:=by
 obtain⟨b,off,e,hb,hl,hc⟩:=RowC.at h hn;refine⟨b,off,e,hb,hl,fun j x hx=>?_⟩;have hj:=(List.getElem?_eq_some_iff.1 hx).1;have:=(hc j hj).2;simp only [List.getD,hx,Option.getD_some] at this;exact this
abbrev thL (t:Th) (ol ob:Option Addr) (cl cb:Nat):List Value:=[str t.nm,.slice ol t.locals.length cl,.slice ob t.body.length cb,.int .i64 t.a]
theorem ThRow.at {oa:Option Addr} {ts:List Th} (h:ThRow w S oa ts) (hn:0<ts.length):∃ b off,oa=some ⟨b,off,none⟩∧S b∧b<w.heap.size∧
    ∀ j t,ts[j]?=some t→∃ ol ob cl cb,DcRow w S ol t.locals∧SmRow w S ob t.body∧∀ i v,(thL t ol ob cl cb)[i]?=some v→w.cell? ⟨b,off+j*4+i,none⟩=some v:=by
 obtain⟨vs,hr,hk⟩:=h;obtain⟨b,off,e,hb,hl,hc⟩:=RowC.at hr hn;refine⟨b,off,e,hb,hl,fun j x hx=>?_⟩;obtain⟨ol,cl,ob,cb,e2,h1,h2⟩:=hk j x hx;have:=(hc j (List.getElem?_eq_some_iff.1 hx).1).2;rw [e2] at this;exact⟨ol,ob,cl,cb,h1,h2,this⟩
theorem Sig.kept' (h:Sig w) (c:Chg M w w') (hm:0∉M):Sig w':=fun k hk=>⟨c.cell (h k hk).1 (by simpa using hm),c.cell (h k hk).2 (by simpa using hm)⟩
end
theorem kR9 {α:Type} {l:List α} {n:Nat} (h:l.length=n) (hn:0<n):∃ x,l[0]?=some x:=by
 cases l with
 | nil=>simp at h;omega
 | cons x r=>exact⟨x,rfl⟩
theorem qI7 {α:Type} {l:List α} {x:α} (h:l.length=1) (h0:l[0]?=some x):l=[x]:=by
 match l,h with
 | [y],_=>simp at h0;rw [h0]
theorem qT3 {α:Type} {l:List α} {x y:α} (h:l.length=2) (h0:l[0]?=some x) (h1:l[1]?=some y):l=[x,y]:=by
 match l,h with
 | [a,b],_=>simp at h0 h1;rw [h0,h1]
theorem get1 {α:Type} {l:List α} (h:l.length=2):∃ x,l[1]?=some x:=by
 match l,h with
 | [a,b],_=>exact⟨b,rfl⟩
theorem gT5 {e:Ex} {d:Nat} (h:e.k=1) (hd:d≤64):zB9 e d=decide (0≤e.wd∧e.op=0∧e.nm=[]∧e.kids.length=0):=by
 cases e;simp only [Ex.k] at h;subst h;unfold zB9;simp [hd,Ex.wd,Ex.op,Ex.nm,Ex.kids]
theorem gH8 {e:Ex} {d:Nat} (h:e.k=2) (hd:d≤64):zB9 e d=(zH4 e.nm && decide (e.op=0∧e.wd=0∧e.kids.length=0)):=by
 cases e;simp only [Ex.k] at h;subst h;unfold zB9;simp [hd,Ex.wd,Ex.op,Ex.nm,Ex.kids]
theorem qT8 {e x:Ex} {d:Nat} (h:e.k=3) (hd:d≤64) (hx:e.kids=[x]):zB9 e d=(qI9 e.op && decide (e.wd=0∧e.nm=[]) && zB9 x (if x.k=4 then d+2 else d+1)):=by
 cases e with
 | mk k op wd nm kids a=>
  change k=3 at h;change kids=[x] at hx;subst h hx
  show zB9 (.mk 3 op wd nm [x] a) d=(qI9 op && decide (wd=0∧nm=[]) && zB9 x (if x.k=4 then d+2 else d+1))
  rw [zB9];simp [hd]
theorem qO6 {e:Ex} {d:Nat} (h:e.k=3) (hx:e.kids.length≠1∨qI9 e.op=false∨e.wd≠0∨e.nm≠[]):zB9 e d=false:=by
 cases e with
 | mk k op wd nm kids a=>
  simp only [Ex.k] at h;subst h
  simp only [Ex.kids,Ex.op,Ex.wd,Ex.nm] at hx
  rcases kids with _|⟨x,_|⟨y,_|⟨z,r⟩⟩⟩ <;> rw [zB9] <;> rcases hx with h|h|h|h <;> simp_all
theorem gG2 {e x y:Ex} {d:Nat} (h:e.k=4) (hd:d≤64) (hx:e.kids=[x,y]):zB9 e d=(zP9 e.op && decide (e.wd=0∧e.nm=[]) && (zB9 x (if inn e.op x false=true then d+1 else d) && zB9 y (if inn e.op y true=true then d+1 else d))):=by
 cases e with
 | mk k op wd nm kids a=>
  change k=4 at h;change kids=[x,y] at hx;subst h hx
  show zB9 (.mk 4 op wd nm [x,y] a) d=(zP9 op && decide (wd=0∧nm=[]) && (zB9 x (if inn op x false=true then d+1 else d) && zB9 y (if inn op y true=true then d+1 else d)))
  rw [zB9];simp [hd]
theorem zR8 {e:Ex} {d:Nat} (h:e.k=4) (hx:e.kids.length≠2∨zP9 e.op=false∨e.wd≠0∨e.nm≠[]):zB9 e d=false:=by
 cases e with
 | mk k op wd nm kids a=>
  simp only [Ex.k] at h;subst h
  simp only [Ex.kids,Ex.op,Ex.wd,Ex.nm] at hx
  rcases kids with _|⟨x,_|⟨y,_|⟨z,r⟩⟩⟩ <;> rw [zB9] <;> rcases hx with h|h|h|h <;> simp_all
theorem gF6 {e:Ex} {d:Nat} (h1:e.k≠1) (h2:e.k≠2) (h3:e.k≠3) (h4:e.k≠4):zB9 e d=false:=by
 cases e;simp only [Ex.k] at *;unfold zB9;simp [h1,h2,h3,h4]
theorem jA {op:Int} {x:Ex} (h:x.k=4):inn op x false=decide (zI8 x.op<zI8 op):=by unfold inn;simp [h]
theorem gQ4 {op:Int} {x:Ex} {b:Bool} (h:¬x.k=4):inn op x b=false:=by unfold inn;simp [h]
theorem kY6 {op:Int} {x:Ex} (h:x.k=4):inn op x true=decide (zI8 x.op≤zI8 op):=by
 unfold inn;rw [Bool.eq_iff_iff];simp [h];omega
theorem zV9 {e:Ex} {d:Nat} (h:64<d):zB9 e d=false:=by
 cases hr:zB9 e d;rfl;have:=zR2 hr;omega
theorem kT0 {e:Ex} {d:Nat} (h:e.k=3) (hd:64≤d):zB9 e d=false:=by
 by_cases h1:e.kids.length=1
 obtain⟨x,hx⟩:=kR9 h1 (by omega)
 by_cases h2:d≤64
 rw [qT8 h h2 (qI7 h1 hx),zV9 (by split <;> omega),Bool.and_false];exact zV9 (by omega);exact qO6 h (.inl h1)
theorem zL1 (e:Ex):szo e.kids<szo e:=by cases e;exact gO8
end Go.Proofs.YtnmhlpnapgojjaaGreatDoor
/- The engine,sixteenth part: a text that grows in somebody's memory: a struct of a byte slice and a flag. -/
namespace Sx
open Go Go.RowKit
def frn (M:List Nat) (base E:Nat) (v:Value) (n:Nat) (xs:List Value):Res:=.tree v.ownBlock.toList fun w=>w.ownsRow 0 E 1 v n xs∧∀ k,v.ownBlock=some k→k∈M∨base≤k
theorem gY0 (E n:Nat) (v:Value) (xs:List Value):Loc v.ownBlock.toList fun w=>w.ownsRow 0 E 1 v n xs:=by
  intro w w' hs hk ⟨h1,h2⟩
  refine⟨h1,h2.imp id fun ⟨g,cap,cur,e,hb,hc,hr⟩=>⟨g,cap,cur,e,hb,?_,hr⟩⟩
  rw [hk g (by rw [e];simp [Value.ownBlock])];exact hc
section
variable {w0 w w':World} {M:List Nat} {hs:List Res}
theorem qB2 {base' base E n:Nat} {v:Value} {xs:List Value} (ho:w.ownsRow 0 E 1 v n xs) (hm:∀ k,v.ownBlock=some k→k∈M∨base≤k):(frn M base E v n xs).holds base' w:=
  ⟨⟨ho,hm⟩,fun k hk=>(World.ownsRow.lt ho k (by simpa using hk)).2,fun a b hs hk h=>⟨gY0 E n v xs a b hs hk h.1,h.2⟩⟩
theorem St.appF (st:St w0 M hs w) {i E n n':Nat} {v v':Value} {xs xs':List Value} (hi:nth hs i=some (frn M w0.heap.size E v n xs)) (hg:w.grownBy w' v.ownBlock)
    (hown:w'.ownsRow 0 E 1 v' n' xs') (hat:∀ k,v'.ownBlock=some k→v.ownBlock=some k∨w.heap.size≤k) :
    St w0 M (zA0 hs i (frn M w0.heap.size E v' n' xs')) w':=by
  obtain⟨⟨h1,h2⟩,-⟩:=st.res hi
  refine st.swap hi (Chg.of_grownByO hg) (by simp [Res.at?,frn]) (fun k hk=>h2 k (by simpa using hk)) (fun k hk=>?_) (qB2 hown fun k hk=>?_)
  · simp only [Res.at?,frn,Option.mem_toList] at hk ⊢
    exact hat k hk
  · rcases hat k hk with h|h
    · exact h2 k h
    · exact .inr (Nat.le_trans st.chg.size h)
variable {P:Program} {n:Fr} {L:List Oper} {Q:Exit→Act→World→Prop} {kn:Kn} {N:Act→World→Prop}
variable {d ty:Nat} {pos:String} {aft:Array Edge} {g:Option (Nat×Bool)}
theorem zJ3 {base E len:Nat} {v:Value} {xs:List Value} (ho:w.ownsRow base E 1 v len xs):∃ oa cap,v=.slice oa len cap:=by
  rcases ho.2 with ⟨rfl,h0⟩|⟨g,cap,cur,rfl,_⟩
  · exact⟨none,0,by rw [h0]⟩
  · exact⟨_,_,rfl⟩
theorem qJ7 (st:St w0 M hs w) (i:Nat) {T U E len:Nat} {x y:Operand} {v:Value} {xs:List Value} {p:List UInt8} {ti:TypeInfo} (hw:gd L kn g=some true) (hd:zI7 n (some d)=true)
    (hx:evO kn x=some v) (hy:evO kn y=some (str p)) (hi:nth hs i=some (frn M w0.heap.size E v len xs))
    (ht:P.underlying T=some (.slice E)) (hu:P.underlying U=some .string) (hinfo:P.info? E=some ti) (hz:ti.zero=some (.int .u8 0)) (hsize:ti.size=1) (hby:ti.bytes=1)
    {len':Nat} {ys:List Value} (hlen':len+p.length=len') (hys:xs++zE2 p=ys) (h63:len'≤140737488355328)
    (next:∀ oa cap w',St w0 M (zA0 hs i (frn M w0.heap.size E (.slice oa len' cap) len' ys)) w'→vN n N ((d,.slice oa len' cap)::kn) w') :
    vS P n L Q ⟨some d,.call ⟨.builtin .append,#[x,y],#[T,U]⟩,ty,pos,aft,g⟩ N kn w:=by
  subst hlen' hys
  obtain⟨v',w',hr,ho,hg,hat⟩:=jD5 (P:=P) (tyy:=ty) 0 ht hu hinfo hz hsize hby (st.res hi).1.1 p (by unfold maxLen;omega) h63 (Nat.zero_le _)
  obtain⟨oa,cap,rfl⟩:=zJ3 ho
  refine e_bi [v,str p] hw hd (by simp [hx,hy]) (w':=w') (fun cs=>?_) (next oa cap w' (st.appF hi hg ho hat))
  simp only [builtin,Sem.run_bind,List.toArray,hr]
  rfl
theorem gM3 (st:St w0 M hs w) (i j:Nat) {T E bytes m len c b:Nat} {x y:Operand} {v z:Value} {xs l:List Value} {fz:Nat×Nat} {ti:TypeInfo} (hw:gd L kn g=some true) (hd:zI7 n (some d)=true)
    (hx:evO kn x=some v) (hy:evO kn y=some (.slice (some ⟨b,0,none⟩) m c)) (hi:nth hs i=some (frn M w0.heap.size E v len xs)) (hj:nth hs j=some (.blk b (.cells l.toArray E fz)))
    (ht:P.underlying T=some (.slice E)) (hinfo:P.info? E=some ti) (hz:ti.zero=some z) (hsize:ti.size=1) (hby:ti.bytes=bytes) (hzs:z.cells.size=1)
    (hl:l.length=m*1) (h1:qR4 l=true) (hm:Nat.blt 0 m=true) (h63:len+m≤maxLen) (hbytes:(len+m)*bytes≤140737488355328) {len':Nat} {ys:List Value} (hlen':len+m=len') (hys:xs++l=ys)
    (next:∀ oa cap w',St w0 M (zA0 hs i (frn M w0.heap.size E (.slice oa len' cap) len' ys)) w'→vN n N ((d,.slice oa len' cap)::kn) w') :
    vS P n L Q ⟨some d,.call ⟨.builtin .append,#[x,y],#[T,T]⟩,ty,pos,aft,g⟩ N kn w:=by
  subst hlen' hys
  have hb:w.heap[b]?=some (.cells l.toArray E fz):=st.res hj
  have hm':0<m:=by simpa [Nat.blt_eq] using hm
  obtain⟨v',w',hr,hown,hg,hnil,hat⟩:=run_append_own_at (P:=P) w 0 T ty E ti z 1 bytes ht hinfo hz hsize hby hzs (by omega) v len xs (st.res hi).1.1 ⟨b,0,none⟩ m c l hl
    (fun k u hk=>by rw [zP4];exact zO hb (by rw [zL8];simpa using hk)) (qK8 h1) h63 hbytes (Nat.zero_le _)
  obtain⟨oa,cap,rfl⟩:=zJ3 hown
  refine e_bi [v,.slice (some ⟨b,0,none⟩) m c] hw hd (by simp [hx,hy]) (w':=w') (fun cs=>?_) (next oa cap w' (st.appF hi hg hown (fun k hk=>by
    rcases hat with h|h
    · rw [h] at hk;exact .inl hk
    · rw [h] at hk;simp at hk;exact .inr (by omega))))
  simp only [builtin,Sem.run_bind,List.toArray,hr]
  rfl
def WS (l:List UInt8) (many:Bool) (F:List UInt8):Prop:=(many=false∧l=F∧F.length≤65536)∨(many=true∧65536<F.length∧l.length≤65536)
theorem WS.le {l F:List UInt8} {m:Bool} (h:WS l m F):l.length≤65536:=by
  rcases h with ⟨_,rfl,h⟩|⟨_,_,h⟩ <;> exact h
theorem WS.over {l F:List UInt8} (h:WS l true F) (G:List UInt8):WS l true (F++G):=by
  rcases h with ⟨h,_⟩|⟨_,h1,h2⟩
  · cases h
  · exact .inr ⟨rfl,by simp;omega,h2⟩
theorem WS.put {l F:List UInt8} (h:WS l false F) {G:List UInt8} (hG:l.length+G.length≤65536):WS (l++G) false (F++G):=by
  rcases h with ⟨_,rfl,h⟩|⟨h,_⟩
  · exact .inl ⟨rfl,rfl,by simpa using hG⟩
  · cases h
theorem WS.no {l F:List UInt8} (h:WS l false F) {G:List UInt8} (hG:65536<l.length+G.length):WS l true (F++G):=by
  rcases h with ⟨_,rfl,h⟩|⟨h,_⟩
  · exact .inr ⟨rfl,by simpa using hG,h⟩
  · cases h
theorem WS.over' {l F:List UInt8} {m:Bool} (h:WS l m F) (hm:m=true) (G:List UInt8):WS l true (F++G):=by subst hm;exact h.over G
theorem WS.put' {l F:List UInt8} {m:Bool} (h:WS l m F) (hm:m=false) {G:List UInt8} (hG:l.length+G.length≤65536):WS (l++G) m (F++G):=by subst hm;exact h.put hG
theorem WS.no' {l F:List UInt8} {m:Bool} (h:WS l m F) (hm:m=false) {G:List UInt8} (hG:65536<l.length+G.length):WS l true (F++G):=by subst hm;exact h.no hG
theorem WS.swap {l F G G':List UInt8} {m:Bool} (h:WS l m (F++G')) (hG:G'=G∨65536<G'.length∧65536<G.length):WS l m (F++G):=by
  rcases hG with rfl|⟨h1,h2⟩
  · exact h
  · rcases h with ⟨_,rfl,h⟩|⟨rfl,_,h⟩
    · simp at h;omega
    · exact .inr ⟨rfl,by simp;omega,h⟩
def Wr (E n0 T bw:Nat) (v:Value) (F:List UInt8) (w:World):Prop:=∃ l many,w.heap[bw]?=some (.cells #[v,.bool many] T (0,0))∧w.ownsRow 0 E 1 v l.length (zE2 l)∧WS l many F∧n0≤bw∧∀ k,v.ownBlock=some k→n0≤k∧k≠bw
def WrP (E n0 T bw:Nat) (v:Value) (F:List UInt8) (w w':World):Prop:=∃ v',Wr E n0 T bw v' F w'∧Chg (bw::v.ownBlock.toList) w w'∧∀ k,v'.ownBlock=some k→v.ownBlock=some k∨w.heap.size≤k
def wrR (M:List Nat) (base E n0 T bw:Nat) (v:Value) (F:List UInt8):Res:=.tree (bw::v.ownBlock.toList) fun w=>Wr E n0 T bw v F w∧(bw∈M∨base≤bw)∧∀ k,v.ownBlock=some k→k∈M∨base≤k
variable {E n0 T bw:Nat} {v:Value} {F:List UInt8}
theorem Wr.lt (h:Wr E n0 T bw v F w):∀ k∈bw::v.ownBlock.toList,k<w.heap.size:=by
  obtain⟨l,many,hb,ho,hws,h1,h2⟩:=h
  intro k hk
  rcases List.mem_cons.1 hk with rfl|hk
  · exact(Array.getElem?_eq_some_iff.1 hb).1
  · exact(World.ownsRow.lt ho k (by simpa using hk)).2
theorem Wr.loc:Loc (bw::v.ownBlock.toList) (Wr E n0 T bw v F):=by
  intro a b hs hk ⟨l,many,hb,ho,hr⟩
  exact⟨l,many,by rw [hk bw (.head _)];exact hb,gY0 E _ v _ a b hs (fun k h=>hk k (.tail _ h)) ho,hr⟩
theorem qW3 {base' base:Nat} (h:Wr E n0 T bw v F w) (hb:bw∈M∨base≤bw) (hm:∀ k,v.ownBlock=some k→k∈M∨base≤k):(wrR M base E n0 T bw v F).holds base' w:=
  ⟨⟨h,hb,hm⟩,h.lt,fun a b hs hk h=>⟨Wr.loc a b hs hk h.1,h.2⟩⟩
theorem St.wrInit (h:Wr E n0 T bw v F w):St w (bw::v.ownBlock.toList) [wrR (bw::v.ownBlock.toList) w.heap.size E n0 T bw v F] w:=
  ⟨Chg.refl _ _,List.pairwise_singleton _ _,by
    intro r hr
    simp only [List.mem_singleton] at hr
    subst hr
    exact qW3 h (.inl (.head _)) (fun k hk=>.inl (.tail _ (Option.mem_toList.2 hk)))⟩
theorem St.wr (st:St w0 M hs w) {i:Nat} {F':List UInt8} (hi:nth hs i=some (wrR M w0.heap.size E n0 T bw v F)) (p:WrP E n0 T bw v F' w w'):∃ v',St w0 M (zA0 hs i (wrR M w0.heap.size E n0 T bw v' F')) w':=by
  obtain⟨v',h1,h2,h3⟩:=p
  obtain⟨⟨k1,k2,k3⟩,-⟩:=st.res hi
  refine⟨v',st.swap hi h2 (by simp [Res.at?,wrR]) (fun k hk=>?_) (fun k hk=>?_) (qW3 h1 k2 fun k hk=>?_)⟩
  · rcases List.mem_cons.1 hk with rfl|hk
    · exact k2
    · exact k3 k (by simpa using hk)
  · simp only [Res.at?,wrR,List.mem_cons,Option.mem_toList] at hk ⊢
    rcases hk with rfl|hk
    · exact .inl (.inl rfl)
    · exact(h3 k hk).imp .inr id
  · rcases h3 k hk with h|h
    · exact k3 k h
    · exact .inr (Nat.le_trans st.chg.size h)
theorem St.wrGet (st:St w0 M hs w) {i:Nat} (hi:nth hs i=some (wrR M w0.heap.size E n0 T bw v F)):Wr E n0 T bw v F w:=(st.res hi).1.1
theorem St.wrDone {v0:Value} (st:St w0 (bw::v0.ownBlock.toList) hs w) {i:Nat} (hi:nth hs i=some (wrR (bw::v0.ownBlock.toList) w0.heap.size E n0 T bw v F)):WrP E n0 T bw v0 F w0 w:=by
  obtain⟨⟨k1,k2,k3⟩,-⟩:=st.res hi
  refine⟨v,k1,st.chg,fun k hk=>?_⟩
  obtain⟨l,many,hb,ho,hws,h1,h2⟩:=k1
  rcases k3 k hk with h|h
  · rcases List.mem_cons.1 h with rfl|h
    · exact absurd rfl (h2 _ hk).2
    · exact .inl (by simpa using h)
  · exact .inr h
theorem Wr.same (h:Wr E n0 T bw v F w) (c:Chg (bw::v.ownBlock.toList) w w'):w.heap.size≤w'.heap.size∧∀ b,b<n0→b<w.heap.size→w'.heap[b]?=w.heap[b]?:=by
  obtain⟨l,many,hb,ho,hws,h1,h2⟩:=h
  refine⟨c.size,fun b hb hl=>c.block b hl fun hk=>?_⟩
  rcases List.mem_cons.1 hk with rfl|hk
  · omega
  · have:=(h2 b (by simpa using hk)).1;omega
theorem Wr.notin (h:Wr E n0 T bw v F w) {b:Nat} (hb:b<n0):b∉bw::v.ownBlock.toList:=by
  obtain⟨l,many,hc,ho,hws,h1,h2⟩:=h
  intro hk
  rcases List.mem_cons.1 hk with rfl|hk
  · omega
  · have:=(h2 b (by simpa using hk)).1;omega
theorem WrP.re {F':List UInt8} (p:WrP E n0 T bw v F w w') (h:∀ l m v',w'.heap[bw]?=some (.cells #[v',.bool m] T (0,0))→WS l m F→WS l m F'):WrP E n0 T bw v F' w w':=by
  obtain⟨v',⟨l,m,hb,ho,hws,hr⟩,h2⟩:=p
  exact⟨v',⟨l,m,hb,ho,h l m v' hb hws,hr⟩,h2⟩
theorem WrP.eq {F':List UInt8} (p:WrP E n0 T bw v F w w') (h:F=F'):WrP E n0 T bw v F' w w':=h▸p
theorem WrP.over {G:List UInt8} (p:WrP E n0 T bw v F w w') {v1:Value} (h:w'.heap[bw]?=some (.cells #[v1,.bool true] T (0,0))):WrP E n0 T bw v (F++G) w w':=
  p.re fun l m v' hb hws=>by
    rw [h] at hb
    simp only [Option.some.injEq,Obj.cells.injEq,Array.mk.injEq,List.cons.injEq,Value.bool.injEq,and_true] at hb
    rw [← hb.2] at hws ⊢
    exact hws.over G
theorem St.wrOpen (h:Wr E n0 T bw v F w):∃ l many oa cap,v=.slice oa l.length cap∧WS l many F∧n0≤bw∧(∀ k,v.ownBlock=some k→n0≤k∧k≠bw)∧
    St w (bw::v.ownBlock.toList) [.blk bw (.cells [.slice oa l.length cap,.bool many].toArray T (0,0)),frn (bw::v.ownBlock.toList) w.heap.size E (.slice oa l.length cap) l.length (zE2 l)] w:=by
  obtain⟨l,many,hb,ho,hws,h1,h2⟩:=h
  obtain⟨oa,cap,rfl⟩:=zJ3 ho
  refine⟨l,many,oa,cap,rfl,hws,h1,h2,Chg.refl _ _,?_,?_⟩
  · refine List.pairwise_cons.2 ⟨fun s hs k hk hk'=>?_,List.pairwise_singleton _ _⟩
    simp only [List.mem_singleton] at hs
    subst hs
    simp only [Res.at?,List.mem_singleton] at hk
    subst hk
    simp only [Res.at?,frn,Option.mem_toList] at hk'
    exact(h2 _ hk').2 rfl
  · intro r hr
    simp only [List.mem_cons,List.not_mem_nil,or_false] at hr
    rcases hr with rfl|rfl
    · exact hb
    · exact qB2 ho (fun k hk=>.inl (.tail _ (Option.mem_toList.2 hk)))
theorem St.wrClose {l:List UInt8} {many:Bool} {oa:Option Addr} {len cap:Nat} {v0:Value} {i j:Nat} (st:St w0 (bw::v0.ownBlock.toList) hs w) (hi:nth hs i=some (.blk bw (.cells [.slice oa len cap,.bool many].toArray T (0,0))))
    (hj:nth hs j=some (frn (bw::v0.ownBlock.toList) w0.heap.size E (.slice oa len cap) len (zE2 l))) (hl:l.length=len) (hws:WS l many F) (hn:n0≤bw) (h0:∀ k,v0.ownBlock=some k→n0≤k∧k≠bw) (hbw:bw<w0.heap.size) (hw:n0≤w0.heap.size):WrP E n0 T bw v0 F w0 w:=by
  subst hl
  have hb:w.heap[bw]?=some (.cells #[.slice oa l.length cap,.bool many] T (0,0)):=st.res hi
  obtain⟨⟨ho,hm⟩,-⟩:=st.res hj
  have key:∀ k,(Value.slice oa l.length cap).ownBlock=some k→(v0.ownBlock=some k∨w0.heap.size≤k)∧n0≤k∧k≠bw:=by
    intro k hk
    have hne:k≠bw:=by
      intro e
      have hij:i≠j:=by
        rintro rfl
        rw [hi] at hj
        cases hj
      exact(zH3 st.nodup hij hi hj) bw (.head _) (Option.mem_toList.2 (e▸hk))
    rcases hm k hk with h|h
    · rcases List.mem_cons.1 h with rfl|h
      · exact absurd rfl hne
      · have h':v0.ownBlock=some k:=by simpa using h
        exact⟨.inl h',(h0 k h').1,hne⟩
    · exact⟨.inr h,by omega,hne⟩
  exact⟨.slice oa l.length cap,⟨l,many,hb,ho,hws,hn,fun k hk=>(key k hk).2⟩,st.chg,fun k hk=>(key k hk).1⟩
theorem St.wrNew (st:St w0 M (.blk bw (.cells [.slice none 0 0,.bool false].toArray T (0,0))::hs) w) (hb:w0.heap.size≤bw) (hn:n0≤w0.heap.size):St w0 M (wrR M w0.heap.size E n0 T bw (.slice none 0 0) []::hs) w:=by
  have h:w.heap[bw]?=some (.cells #[.slice none 0 0,.bool false] T (0,0)):=st.res (i:=0) rfl
  refine st.turn0 (fun k hk=>by simpa [Res.at?,wrR,Value.ownBlock] using hk) (qW3 ⟨[],false,h,World.ownsRow_nil w 0 E 1,.inl ⟨rfl,rfl,by simp⟩,by omega,fun k hk=>by simp [Value.ownBlock] at hk⟩ (.inr hb) fun k hk=>by simp [Value.ownBlock] at hk)
end
end Sx
namespace Go.Proofs.YtnmhlpnapgojjaaGreatDoor
open Go.RowKit Sx LexS _root_.Go.Proofs.Tryz
theorem Tryz.info5:Tryz.prog.info? 5=some Tryz.t5:=by kernel_rfl
section
variable {n0:Nat}
theorem zZ {w:World} {bw T:Nat} {v:Value} {m:Bool} (h:w.heap[bw]?=some (.cells #[v,.bool m] T (0,0))):w.cell? ⟨bw,1,none⟩=some (.bool m):=zD7 (l:=[v,.bool m]) h rfl
set_option maxHeartbeats 1000000 in
theorem zE1 (bw:Nat) (v:Value) (F s:List UInt8) (w:World) (hW:Wr 5 n0 162 bw v F w) (hn0:n0≤w.heap.size) (hs:s.length≤1099511627776):Ret Tryz.prog 136 [.pointer (some ⟨bw,0,none⟩),str s] w fun r w'=>r=.tuple #[]∧WrP 5 n0 162 bw v (F++s) w w':=by
 have hbw:=hW.lt bw (.head _);obtain⟨l,many,oa,cap,rfl,hws,h1,h2,st0⟩:=St.wrOpen hW;have hle:=hws.le;refine zB [_,_] func136 rfl ntmps136 rfl ?_;have st:=St.init w [];clear st;have st:=st0;clear st0;refine a5 ?_;refine yfz 1 qU162 qZ4 ?_;refine yl st 0 qA4 ?_;refine vmb ?_ ?_;intro hg8;(try simp only [dn] at hg8);refine a16 ?_;refine a1 ?_;refine yfz 1 qU162 qZ4 ?_;refine zA3 (est st 0 qZ4 ?_);intro w st;dsimp only [zA0,wr] at st;refine a4 ?_;refine zD4 (.inl rfl) results136 ?_
 rotate_left
 focus
  intro hg8;(try simp only [dn] at hg8);refine a1 ?_;refine vy (zH8 rfl qU9) ?_;refine a2 ?_;refine vy (zC3 rfl qU162 rfl rfl qZ78 rfl) ?_;refine yl st 0 qA78 ?_;refine vy (zB1 rfl qU78) ?_;refine vy (qF4 rfl rfl rfl (by omega) (by omega)) ?_;refine a4 ?_;refine vif ?_ ?_;intro hc18;(try simp only [dn] at hc18);refine a4 ?_;refine yfz 1 qU162 qZ4 ?_;refine zA3 (est st 0 qZ4 ?_);intro w st;dsimp only [zA0,wr] at st;refine a4 ?_;refine zD4 (.inl rfl) results136 ?_
  rotate_left
  intro hc18;(try simp only [dn] at hc18);refine a6 ?_;refine vy (zC3 rfl qU162 rfl rfl qZ78 rfl) ?_;refine yl st 0 qA78 ?_;refine a1 ?_;refine zA3 (qJ7 (len':=l.length+s.length) (ys:=zE2 (l++s)) st 1 rfl rfl rfl rfl rfl qU78 qU9 Tryz.info5 rfl rfl rfl rfl (by simp [zE2]) (by omega) ?_);intro oa28 cap28 w st;dsimp only [zA0] at st;refine a1 ?_;refine vy (zC3 rfl qU162 rfl rfl qZ78 rfl) ?_;refine zA3 (est st 0 qZ78 ?_);intro w st;dsimp only [zA0,wr] at st;refine a1 ?_;refine zD4 (.inr rfl) results136 ?_
 all_goals
  refine⟨_,rfl,?_⟩;refine⟨rfl,?_⟩
  first
   | exact st.wrClose (i:=0) (j:=1) rfl rfl rfl (hws.over' (by assumption) s) h1 h2 hbw hn0
   | exact st.wrClose (i:=0) (j:=1) rfl rfl rfl (hws.no' (by assumption) (by omega)) h1 h2 hbw hn0
   | exact st.wrClose (l:=l++s) (i:=0) (j:=1) rfl rfl (by simp) (hws.put' (by assumption) (by omega)) h1 h2 hbw hn0
theorem kZ6 (j:Nat):mar (j+1)=mar j++[32,32]:=by
 unfold mar;rw [show 2*(j+1)=2*j+2 by omega,← List.replicate_append_replicate];rfl
theorem jJ5 {j d:Nat} (h:j≤d):mar d=mar j++mar (d - j):=by
 unfold mar;rw [List.replicate_append_replicate];congr 1;omega
set_option maxHeartbeats 1000000 in
theorem zQ3 (bw:Nat) (v:Value) (F:List UInt8) (d:Nat) (w:World) (hW:Wr 5 n0 162 bw v F w) (hn0:n0≤w.heap.size) (hd:d≤1000):Ret Tryz.prog 216 [.pointer (some ⟨bw,0,none⟩),.int .i64 (d:Int)] w fun r w'=>r=.tuple #[]∧WrP 5 n0 162 bw v (F++mar d) w w':=by
 refine zB [_,_] func216 rfl ntmps216 rfl ?_;have st:=St.init w [];clear st;obtain⟨w0,rfl⟩:∃ w0,w0=w:=⟨_,rfl⟩
 have st:=St.wrInit hW;refine a6 ?_;refine zC (w0:=w0) (M:=(bw::v.ownBlock.toList)) (fun (x:Nat×Value)=>[(0,.pointer (some ⟨bw,0,none⟩)),(1,.int .i64 (d:Int)),(4,.int .i64 (x.1:Int))]) (fun x=>[wrR (bw::v.ownBlock.toList) w0.heap.size 5 n0 162 bw x.2 (F++mar x.1)]) (fun x _=>x.1≤d) (fun x=>d - x.1) (0,v) ⟨rfl,rfl,rfl,trivial⟩ (by simpa [mar] using st) (by simp) ?_;clear st;rintro ⟨j,v1⟩ w hj st;dsimp only at *;have hwr:=st.wrGet (i:=0) rfl;obtain⟨l,many,hb,ho,hws,hx1,hx2⟩:=hwr;refine a6 ?_;refine vmb ?_ ?_;intro hg8;(try simp only [dn] at hg8);refine a2 ?_;refine yfz 1 qU162 qZ4 ?_;refine vy (zD8 rfl qA4 (zZ hb)) ?_;refine a4 ?_;refine vif ?_ ?_;intro hc14;(try simp only [dn] at hc14);refine a6 ?_;refine zA3 (zA1 [_,_] rfl rfl call136 rfl (zE1 bw _ _ [32,32] _ (st.wrGet (i:=0) rfl) (Nat.le_trans hn0 st.chg.size) (by simp)) ?_);rintro _ w ⟨rfl,hp⟩;obtain⟨v2,st⟩:=st.wr (i:=0) rfl hp;dsimp only [zA0] at st;refine a5 ?_;refine vy (yin ((j+1:Nat):Int)) ?_;refine a2 ?_;refine zA7 (j+1,v2)  ⟨rfl,rfl,rfl,trivial⟩ (by rw [kZ6,← List.append_assoc];exact st) ?_ ?_;dsimp only;omega;dsimp only;omega;intro hc14;(try simp only [dn] at hc14);refine a4 ?_;refine zD4 (.inr rfl) results216 ?_;refine⟨_,rfl,?_⟩;refine⟨rfl,?_⟩
 first
  | (have hm : many = true := by assumption
     subst hm
     rw [jJ5 hj,← List.append_assoc]
     exact(st.wrDone (i:=0) rfl).over hb)
 intro hg8;(try simp only [dn] at hg8);refine a13 ?_;refine zD4 (.inr rfl) results216 ?_;refine⟨_,rfl,?_⟩;refine⟨rfl,?_⟩
 first
  | (obtain rfl : j = d := by omega
     exact st.wrDone (i:=0) rfl)
end
section
variable {S:Nat→Prop}
theorem qQ8 (op:Int) (hop:u8 op) (x:Ex) (b:Bool) (o:Option Addr) (c:Nat) (w:World) (hx:OkE x):Ret Tryz.prog 236 [.int .u8 op,.agg (exL x o c).toArray,.bool b] w fun v w'=>v=.bool (inn op x b)∧Chg [] w w':=by
 refine zB [_,_,_] func236 rfl ntmps236 rfl ?_;have st:=St.init w [];refine a2 ?_;refine zA3 (zT2 (l:=[_,_,_,_,_,_]) st rfl rfl rfl rfl ?_);intro b4 w hb4 st;refine a6 ?_;refine vy (zC3 rfl qU42 rfl rfl qZ38 rfl) ?_;refine yl st 0 qA38 ?_;refine a3 ?_;refine vif ?_ ?_;intro hc11;(try simp only [dn] at hc11);refine a7 ?_
 rotate_left
 focus
  intro hc11;(try simp only [dn] at hc11);refine a4 ?_;refine yfz 1 qU42 qZ39 ?_;refine yl st 0 qA39 ?_;refine zA3 (zA1 [_] rfl rfl call250 rfl (qA7 _ hx.op.1 _) ?_);rintro _ w ⟨rfl,cw⟩;replace st:=st.call0 cw;refine a1 ?_;refine zA3 (zA1 [_] rfl rfl call250 rfl (qA7 _ hop.1 _) ?_);rintro _ w ⟨rfl,cw⟩;replace st:=st.call0 cw;refine a9 ?_;refine vmb ?_ ?_;intro hg20;(try simp only [dn] at hg20);refine a7 ?_
  rotate_left
  focus
   intro hg20;(try simp only [dn] at hg20);refine a1 ?_;refine vmb ?_ ?_;intro hg22;(try simp only [dn] at hg22);refine a4 ?_
   rotate_left
   intro hg22;(try simp only [dn] at hg22);refine a4 ?_
   all_goals
    refine a1 ?_
  all_goals
   refine a4 ?_
 all_goals
  refine vr1 st results236 ?_;refine⟨?_,st.chg⟩;show Value.bool _=Value.bool _;congr 1;symm
  first
   | exact gQ4 (by assumption)
   | (cases b <;> first | rw [jA (by assumption)] | rw [kY6 (by assumption)]
      all_goals (clear st;rw [Bool.eq_iff_iff];simp_all <;> omega))
theorem qW1 {e x y:Ex} {d:Nat} (h:e.k=4) (hd:d≤64) (h2:e.kids.length=2) (hx:e.kids[0]?=some x) (hy:e.kids[1]?=some y) (h3:zP9 e.op=true) (h4:e.wd=0) (h5:e.nm=[]) :
    zB9 e d=(zB9 x (if inn e.op x false=true then d+1 else d) && zB9 y (if inn e.op y true=true then d+1 else d)):=by
 rw [gG2 h hd (qT3 h2 hx hy),h3];simp [h4,h5]
def kidOk (e:Ex) (d j:Nat):Prop:=∀ z,e.kids[j]?=some z→zB9 z (if inn e.op z (decide ((j:Int)=1))=true then d+1 else d)=true
set_option maxHeartbeats 2000000 in
theorem qB:∀ (n:Nat) (e:Ex),szo e=n→∀ (d:Nat) (l:List Value) (w:World),ExV w S e l→OkE e→d≤1000→Ret Tryz.prog 208 [.agg l.toArray,.int .i64 (d:Int)] w fun v w'=>v=.bool (zB9 e d)∧Chg [] w w':=by
 intro n;refine Nat.strongRecOn n fun n ih=>?_
 intro e hn d l w hV hok hdb;subst hn;obtain⟨oa,cap,rfl,hr⟩:=ExV.inv hV;refine zB [_,_] func208 rfl ntmps208 rfl ?_;have st:=St.init w [];obtain⟨w0,rfl⟩:∃ w0,w0=w:=⟨_,rfl⟩
 refine a2 ?_;refine zA3 (zT2 (l:=[_,_,_,_,_,_]) st rfl rfl rfl rfl ?_);intro b2 w hb2 st;refine a10 ?_;refine vif ?_ ?_;intro hc8;(try simp only [dn] at hc8);refine a7 ?_;refine vr1 st results208 ?_;refine⟨?_,st.chg⟩;rw [zV9 (by omega)];intro hc8;(try simp only [dn] at hc8);have hd:d≤64:=by omega
 refine a5 ?_;refine vy (zC3 rfl qU42 rfl rfl qZ38 rfl) ?_;refine yl st 0 qA38 ?_;refine a9 ?_;refine vif ?_ ?_
 ·intro hc11;(try simp only [dn] at hc11);refine a2 ?_;refine yfz 2 qU42 qZ2 ?_;refine yl st 0 qA2 ?_;refine a1 ?_;refine vmb ?_ ?_
  focus
   intro hg16;(try simp only [dn] at hg16);refine yfz 1 qU42 qZ39 ?_;refine yl st 0 qA39 ?_;refine a2 ?_;refine vmb ?_ ?_
   focus
    intro hg21;(try simp only [dn] at hg21);refine yfz 3 qU42 qZ9 ?_;refine yl st 0 qA9 ?_;refine a2 ?_;refine vmb ?_ ?_;intro hg26;(try simp only [dn] at hg26);refine yfz 4 qU42 qZ40 ?_;refine yl st 0 qA40 ?_;refine vy (zB1 rfl qU40) ?_;refine a2 ?_
    rotate_left
    intro hg26;(try simp only [dn] at hg26);refine a5 ?_
   rotate_left 2
   intro hg21;(try simp only [dn] at hg21);refine a10 ?_
  rotate_left 3
  intro hg16;(try simp only [dn] at hg16);refine a15 ?_
  all_goals
   refine a6 ?_;refine vr1 st results208 ?_;refine⟨?_,st.chg⟩;show Value.bool _=Value.bool _;congr 1;clear st;symm
   (rw [gT5 (e:=e) (by assumption) hd];clear hV hr ih hok;rw [Bool.eq_iff_iff];simp_all <;> omega)
 intro hc11;(try simp only [dn] at hc11);refine a6 ?_;refine vif ?_ ?_
 ·intro hc32;(try simp only [dn] at hc32);refine a2 ?_;refine yfz 3 qU42 qZ9 ?_;refine yl st 0 qA9 ?_;refine zA3 (zA1 [_] rfl rfl call58 rfl (zM9 _ _) ?_);rintro _ _ ⟨rfl,rfl⟩;refine vmb ?_ ?_
  focus
   intro hg37;(try simp only [dn] at hg37);refine yfz 1 qU42 qZ39 ?_;refine yl st 0 qA39 ?_;refine a2 ?_;refine vmb ?_ ?_
   focus
    intro hg42;(try simp only [dn] at hg42);refine yfz 2 qU42 qZ2 ?_;refine yl st 0 qA2 ?_;refine a2 ?_;refine vmb ?_ ?_;intro hg47;(try simp only [dn] at hg47);refine yfz 4 qU42 qZ40 ?_;refine yl st 0 qA40 ?_;refine vy (zB1 rfl qU40) ?_;refine a2 ?_
    rotate_left
    intro hg47;(try simp only [dn] at hg47);refine a5 ?_
   rotate_left 2
   intro hg42;(try simp only [dn] at hg42);refine a10 ?_
  rotate_left 3
  intro hg37;(try simp only [dn] at hg37);refine a15 ?_
  all_goals
   refine a6 ?_;refine vr1 st results208 ?_;refine⟨?_,st.chg⟩;show Value.bool _=Value.bool _;congr 1;clear st;symm
   (rw [gH8 (e:=e) (by assumption) hd];clear hV hr ih hok;rw [Bool.eq_iff_iff];simp_all <;> omega)
 intro hc32;(try simp only [dn] at hc32);refine a6 ?_;refine vif ?_ ?_
 ·intro hc53;(try simp only [dn] at hc53);refine a3 ?_;refine yfz 1 qU42 qZ39 ?_;refine yl st 0 qA39 ?_;refine zA3 (zA1 [_] rfl rfl call234 rfl (kU3 _ _) ?_);rintro _ _ ⟨rfl,rfl⟩;refine a1 ?_;refine vmb ?_ ?_;intro hg59;(try simp only [dn] at hg59);refine a16 ?_;refine a9 ?_
  rotate_left
  focus
   intro hg59;(try simp only [dn] at hg59);refine yfz 2 qU42 qZ2 ?_;refine yl st 0 qA2 ?_;refine a2 ?_;refine vmb ?_ ?_;intro hg64;(try simp only [dn] at hg64);refine a16 ?_;refine a4 ?_
   rotate_left
   focus
    intro hg64;(try simp only [dn] at hg64);refine yfz 3 qU42 qZ9 ?_;refine yl st 0 qA9 ?_;refine a2 ?_;refine vmb ?_ ?_;intro hg69;(try simp only [dn] at hg69);refine a15 ?_
    rotate_left
    focus
     intro hg69;(try simp only [dn] at hg69);refine yfz 4 qU42 qZ40 ?_;refine yl st 0 qA40 ?_;refine vy (zB1 rfl qU40) ?_;refine a4 ?_;refine vif ?_ ?_;intro hc74;(try simp only [dn] at hc74);refine a7 ?_
     rotate_left
     focus
      intro hc74;(try simp only [dn] at hc74);obtain⟨x,hx⟩:=kR9 (l:=e.kids) (n:=e.kids.length) rfl (by omega);obtain⟨gb,go,rfl,hgS,hgl,hg⟩:=ExRow.at hr (by omega);obtain⟨o0,c0,hV0,hr0,hc0⟩:=hg 0 x hx;refine a5 ?_;refine yfz 4 qU42 qZ40 ?_;refine yl st 0 qA40 ?_;refine vy (zM3 (k:=0) rfl rfl qU40 qZ42 rfl (by omega)) ?_;refine vy (zC3 rfl qU42 rfl rfl qZ38 rfl) ?_;refine vy (zD8 rfl qA38 (st.chg.cell (hc0 0 _ rfl) (by simp))) ?_;refine a3 ?_;refine vif ?_ ?_
      focus
       intro hc80;(try simp only [dn] at hc80);refine a3 ?_;refine vy (yin ((d+1:Nat):Int)) ?_;refine a1 ?_;refine vmb ?_ ?_;intro hg84;(try simp only [dn] at hg84);refine yfz 4 qU42 qZ40 ?_;refine yl st 0 qA40 ?_;refine vy (zM3 (k:=0) rfl rfl qU40 qZ42 rfl (by omega)) ?_;refine vy (zE6 (exL x o0 c0) rfl qA42 qZ42 rfl (fun i v hi=>st.chg.cell (hc0 i v hi) (by simp))) ?_;refine a1 ?_;refine vy (yin ((d+2:Nat):Int)) ?_;refine zA3 (zA1 [_,_] rfl rfl call208 rfl (ih (szo x) (by have:=zF2 hx;have:=zL1 e;omega) x rfl (d+2) _ _ (hV0.kept st.sm) (hok.kid hx) (by omega)) ?_);rintro _ w ⟨rfl,cw⟩;replace st:=st.call0 cw;refine a1 ?_
       rotate_left
       intro hg84;(try simp only [dn] at hg84);refine a8 ?_
       all_goals
        refine a5 ?_
      rotate_left 2
      intro hc80;(try simp only [dn] at hc80);refine a4 ?_;refine yfz 4 qU42 qZ40 ?_;refine yl st 0 qA40 ?_;refine vy (zM3 (k:=0) rfl rfl qU40 qZ42 rfl (by omega)) ?_;refine vy (zE6 (exL x o0 c0) rfl qA42 qZ42 rfl (fun i v hi=>st.chg.cell (hc0 i v hi) (by simp))) ?_;refine a1 ?_;refine vy (yin ((d+1:Nat):Int)) ?_;refine zA3 (zA1 [_,_] rfl rfl call208 rfl (ih (szo x) (by have:=zF2 hx;have:=zL1 e;omega) x rfl (d+1) _ _ (hV0.kept st.sm) (hok.kid hx) (by omega)) ?_);rintro _ w ⟨rfl,cw⟩;replace st:=st.call0 cw;refine a4 ?_
  all_goals
   refine a2 ?_;refine vr1 st results208 ?_;refine⟨?_,st.chg⟩;show Value.bool _=Value.bool _;congr 1;clear st;symm
   first
    | exact qO6 (e:=e) (by assumption) (by first|exact .inl (by omega)|exact .inr (.inr (.inl (by assumption)))|exact .inr (.inr (.inr (by assumption)))|exact .inr (.inl (by assumption)))
    | (rw [qT8 (e := e) (by assumption) hd (qI7 (by omega) hx)]; first | rw [if_pos (by assumption)] | rw [if_neg (by assumption)]
       first|(rw [zV9 (e:=x) (by omega)];simp)|(clear hV hr ih hok hg hc0 hV0 hr0;simp_all))
 intro hc53;(try simp only [dn] at hc53);refine a6 ?_;refine vif ?_ ?_
 ·intro hc100;(try simp only [dn] at hc100);refine a3 ?_;refine yfz 1 qU42 qZ39 ?_;refine yl st 0 qA39 ?_;refine zA3 (zA1 [_] rfl rfl call235 rfl (kU1 _ _) ?_);rintro _ _ ⟨rfl,rfl⟩;refine a1 ?_;refine vmb ?_ ?_;intro hg106;(try simp only [dn] at hg106);refine a16 ?_;refine a11 ?_;refine vr1 st results208 ?_;refine⟨?_,st.chg⟩;show Value.bool _=Value.bool _;congr 1;clear st;symm;exact zR8 (e:=e) (by assumption) (by exact .inr (.inl (by assumption)));intro hg106;(try simp only [dn] at hg106);refine yfz 2 qU42 qZ2 ?_;refine yl st 0 qA2 ?_;refine a2 ?_;refine vmb ?_ ?_;intro hg111;(try simp only [dn] at hg111);refine a16 ?_;refine a6 ?_;refine vr1 st results208 ?_;refine⟨?_,st.chg⟩;show Value.bool _=Value.bool _;congr 1;clear st;symm;exact zR8 (e:=e) (by assumption) (by exact .inr (.inr (.inl (by assumption))));intro hg111;(try simp only [dn] at hg111);refine yfz 3 qU42 qZ9 ?_;refine yl st 0 qA9 ?_;refine a2 ?_;refine vmb ?_ ?_;intro hg116;(try simp only [dn] at hg116);refine a16 ?_;refine a1 ?_;refine vr1 st results208 ?_;refine⟨?_,st.chg⟩;show Value.bool _=Value.bool _;congr 1;clear st;symm;exact zR8 (e:=e) (by assumption) (by exact .inr (.inr (.inr (by assumption))));intro hg116;(try simp only [dn] at hg116);refine yfz 4 qU42 qZ40 ?_;refine yl st 0 qA40 ?_;refine vy (zB1 rfl qU40) ?_;refine a4 ?_;refine vif ?_ ?_;intro hc121;(try simp only [dn] at hc121);refine a9 ?_;refine vr1 st results208 ?_;refine⟨?_,st.chg⟩;show Value.bool _=Value.bool _;congr 1;clear st;symm;exact zR8 (e:=e) (by assumption) (by exact .inl (by omega));intro hc121;(try simp only [dn] at hc121);have hk2:e.kids.length=2:=by omega
  obtain⟨x,hx⟩:=kR9 hk2 (by omega);obtain⟨y,hy⟩:=get1 hk2;obtain⟨gb,go,rfl,hgS,hgl,hg⟩:=ExRow.at hr (by omega);refine a9 ?_;refine zC (w0:=w0) (M:=[]) (fun (j:Nat)=>[(1,.int .i64 (d:Int)),(2,.pointer (some ⟨b2,0,none⟩)),(5,.int .i64 (j:Int))]) (fun _=>[.blk b2 (.cells (exL e (some ⟨gb,go,none⟩) cap).toArray 42 (0,0))]) (fun j _=>j≤2∧∀ i,i<j→kidOk e d i) (fun j=>2 - j) 0 ⟨rfl,rfl,rfl,trivial⟩ st ⟨by omega,fun i hi=>by omega⟩ ?_;rintro j w ⟨hj,hdone⟩ st;refine a7 ?_;refine vif ?_ ?_
  ·intro hc123;(try simp only [dn] at hc123);obtain⟨z,hz⟩:∃ z,e.kids[j]?=some z:=⟨_,List.getElem?_eq_getElem (by omega)⟩
   obtain⟨o1,c1,hV1,hr1,hc1⟩:=hg j z hz;have hzk:=hok.kid hz;refine a9 ?_;refine zL2 (w0:=w0) (M:=[]) (fun (_:Unit)=>[(1,.int .i64 (d:Int)),(2,.pointer (some ⟨b2,0,none⟩)),(5,.int .i64 (j:Int)),(6,.int .i64 (if inn e.op z (decide ((j:Int)=1))=true then 1 else 0:Int))]) (fun _=>[.blk b2 (.cells (exL e (some ⟨gb,go,none⟩) cap).toArray 42 (0,0))]) (fun _ _=>True) ?_ ?_
   ·refine a1 ?_;refine qJ5 Tryz.mixed [Yt 0,Yt 1,Yt 2,Yt 3,Yt 4,Yt 5,Yt 6,Yt 7,Yt 8,Nt 9] st ?_;clear st;intro w st hS;refine pfz hS 1 qU42 qZ39 ?_;refine pld hS 0 qA39 ?_;refine pfz hS 4 qU42 qZ40 ?_;refine pld hS 0 qA40 ?_;refine pm hS ?_;refine zA2 rfl rfl rfl hS (fun w st=>zM3 (k:=j) rfl rfl qU40 qZ42 rfl (by omega)) ?_;refine zA2 rfl rfl rfl hS (fun w st=>zE6 (exL z o1 c1) rfl qA42 qZ42 rfl (fun i v hi=>st.chg.cell (hc1 i v hi) (by simp))) ?_;refine pm hS ?_;refine zA2 rfl rfl rfl hS (fun w st=>zK5 rfl rfl) ?_;refine zD0 rfl (zA1 [_,_,_] rfl rfl call236 rfl (qQ8 _ hok.op z _ _ _ _ hzk) ?_);rintro _ w ⟨rfl,cw⟩;replace st:=st.call0 cw;refine zA9 (by exact st) ?_;intro hS;refine zC6 (zA6 ?_);refine vif ?_ ?_;intro hc135;(try simp only [dn] at hc135);refine a3 ?_
    rotate_left
    intro hc135;(try simp only [dn] at hc135);refine a1 ?_
    all_goals
     exact zB8 () ⟨rfl,rfl,rfl,by simp [Sx.put,find,Nat.beq,hc135],trivial⟩ st trivial
   clear st;rintro ⟨⟩ w - st;refine a2 ?_;refine yfz 4 qU42 qZ40 ?_;refine yl st 0 qA40 ?_;refine a1 ?_;refine vy (zM3 (k:=j) rfl rfl qU40 qZ42 rfl (by omega)) ?_;refine vy (zE6 (exL z o1 c1) rfl qA42 qZ42 rfl (fun i v hi=>st.chg.cell (hc1 i v hi) (by simp))) ?_;refine a2 ?_;refine vy (zK2 rfl rfl (by split <;> omega:_=((if inn e.op z (decide ((j:Int)=1))=true then d+1 else d:Nat):Int)) (by split <;> omega) (by split <;> omega)) ?_;refine zA3 (zA1 [_,_] rfl rfl call208 rfl (ih (szo z) (by have:=zF2 hz;have:=zL1 e;omega) z rfl _ _ _ (hV1.kept st.sm) (hok.kid hz) (by split <;> omega)) ?_);rintro _ w ⟨rfl,cw⟩;replace st:=st.call0 cw;refine a3 ?_;refine vif ?_ ?_;intro hc145;(try simp only [dn] at hc145);refine a13 ?_;refine vr1 st results208 ?_;refine⟨?_,st.chg⟩;show Value.bool _=Value.bool _;congr 1;clear st;symm
   first
    | (rw [qW1 (e := e) (by assumption) hd hk2 hx hy (by assumption) (by assumption) (by assumption)]
       rcases Nat.lt_or_ge j 2 with hj2|hj2
       · first
           | (rcases (show j = 0 ∨ j = 1 by omega) with h | h
              · subst h;rw [hz] at hx;cases hx;simp_all
              · subst h;rw [hz] at hy;cases hy;simp_all)
       · (exfalso;omega))
   intro hc145;(try simp only [dn] at hc145);refine a5 ?_;refine vy (yin ((j+1:Nat):Int)) ?_;refine a2 ?_;refine zA7 (j+1)  ⟨rfl,rfl,rfl,trivial⟩ st ?_ ?_;refine⟨by omega,fun i hi=>?_⟩;rcases Nat.lt_or_ge i j with h|h;exact hdone i h;have h2:i=j:=by omega
   subst h2;intro z2 hz2;rw [hz] at hz2;cases hz2;assumption
   (try dsimp only);omega
  intro hc123;(try simp only [dn] at hc123);refine a13 ?_;refine vr1 st results208 ?_;refine⟨?_,st.chg⟩;show Value.bool _=Value.bool _;congr 1;clear st;symm
  first
   | (rw [qW1 (e := e) (by assumption) hd hk2 hx hy (by assumption) (by assumption) (by assumption)]
      rcases Nat.lt_or_ge j 2 with hj2|hj2
      · (exfalso;omega)
      · first
          | (have h0 := hdone 0 (by omega) x hx
             have h1:=hdone 1 (by omega) y hy
             simp at h0 h1
             simp [h0,h1]))
 intro hc100;(try simp only [dn] at hc100);refine a9 ?_;refine vr1 st results208 ?_;refine⟨?_,st.chg⟩;show Value.bool _=Value.bool _;congr 1;clear st;symm;exact gF6 (e:=e) (by assumption) (by assumption) (by assumption) (by assumption)
end
section
variable {n0:Nat}
theorem qX1 {e:Ex} {d:Nat} (h:zB9 e d=true) (hk:e.k=3):∃ x,e.kids=[x]∧∃ d',zB9 x d'=true:=by
 have hd:=zR2 h
 by_cases h1:e.kids.length=1
 obtain⟨x,hx⟩:=kR9 h1 (by omega);refine⟨x,qI7 h1 hx,?_⟩;rw [qT8 hk hd (qI7 h1 hx)] at h;simp only [Bool.and_eq_true] at h;exact⟨_,h.2⟩;rw [qO6 hk (.inl h1)] at h;cases h
theorem qW7 {e:Ex} {d:Nat} (h:zB9 e d=true) (hk:e.k=4):∃ x y,e.kids=[x,y]∧(∃ d',zB9 x d'=true)∧∃ d',zB9 y d'=true:=by
 have hd:=zR2 h
 by_cases h1:e.kids.length=2
 obtain⟨x,hx⟩:=kR9 h1 (by omega);obtain⟨y,hy⟩:=get1 h1;refine⟨x,y,qT3 h1 hx hy,?_⟩;rw [gG2 hk hd (qT3 h1 hx hy)] at h;simp only [Bool.and_eq_true] at h;exact⟨⟨_,h.2.1⟩,⟨_,h.2.2⟩⟩;rw [zR8 hk (.inl h1)] at h;cases h
theorem qW2 {e:Ex} {d:Nat} (h:zB9 e d=true):e.k=1∨e.k=2∨e.k=3∨e.k=4:=by
 by_cases h1:e.k=1
 exact .inl h1
 by_cases h2:e.k=2
 exact .inr (.inl h2)
 by_cases h3:e.k=3
 exact .inr (.inr (.inl h3))
 by_cases h4:e.k=4
 exact .inr (.inr (.inr h4));rw [gF6 h1 h2 h3 h4] at h;cases h
theorem zL9 {l:List UInt8} (h:zH4 l=true):l.length≤32:=by
 rcases Nat.lt_or_ge 32 l.length with h1|h1;rw [qK h1] at h;cases h;exact h1
theorem kO5 {e:Ex} {d:Nat} (h:zB9 e d=true) (hk:e.k=2):e.nm.length≤32:=by
 rw [gH8 hk (zR2 h)] at h;simp only [Bool.and_eq_true] at h;exact zL9 h.1
theorem kM8 {e:Ex} (h:e.k=1):txtE e=shw e.wd:=by
 cases e;simp only [Ex.k] at h;subst h;rw [txtE.eq_def];simp [Ex.wd]
theorem kH7 {e:Ex} (h:e.k=2):txtE e=e.nm:=by
 cases e;simp only [Ex.k] at h;subst h;rw [txtE.eq_def];simp [Ex.nm]
theorem kN4 {e x:Ex} (h:e.k=3) (hx:e.kids=[x]):txtE e=qA0 e.op++par (decide (x.k=4)) (txtE x):=by
 cases e with
 | mk k op wd nm kids a=>change k=3 at h;change kids=[x] at hx;subst h hx;rw [txtE];simp [Ex.op]
theorem kQ3 {e x y:Ex} (h:e.k=4) (hx:e.kids=[x,y]):txtE e=par (inn e.op x false) (txtE x)++([32]++qA0 e.op++[32])++par (inn e.op y true) (txtE y):=by
 cases e with
 | mk k op wd nm kids a=>change k=4 at h;change kids=[x,y] at hx;subst h hx;rw [txtE];simp [Ex.op]
theorem gU3 (x:Int) (h:i64 x):(shw x).length≤20:=by
 unfold i64 at h;have h1:=qV 18 x.natAbs (by simp only [Nat.reducePow,Nat.reduceAdd];omega);unfold shw;split;simp only [List.length_cons];omega;omega
set_option maxHeartbeats 1000000 in
theorem gI0 (x:Ex) (hrec:∀ (bw:Nat) (v:Value) (F:List UInt8) (w:World) (l:List Value),ExV w (·<n0) x l→Wr 5 n0 162 bw v F w→n0≤w.heap.size→Ret Tryz.prog 217 [.pointer (some ⟨bw,0,none⟩),.agg l.toArray] w fun r w'=>r=.tuple #[]∧WrP 5 n0 162 bw v (F++txtE x) w w')
    (b:Bool) (o:Option Addr) (c:Nat) (bw:Nat) (v:Value) (F:List UInt8) (w:World) (hV:ExV w (·<n0) x (exL x o c)) (hW:Wr 5 n0 162 bw v F w) (hn0:n0≤w.heap.size) :
  Ret Tryz.prog 239 [.pointer (some ⟨bw,0,none⟩),.agg (exL x o c).toArray,.bool b] w fun r w'=>r=.tuple #[]∧WrP 5 n0 162 bw v (F++par b (txtE x)) w w':=by
 refine zB [_,_,_] func239 rfl ntmps239 rfl ?_;have st:=St.init w [];clear st;obtain⟨w0,rfl⟩:∃ w0,w0=w:=⟨_,rfl⟩
 have st:=St.wrInit hW;have hsame:∀ {w1:World},Chg (bw::v.ownBlock.toList) w0 w1→Same (·<n0) w0 w1:=fun c=>hW.same c
 refine a2 ?_;refine zA3 (zT2 (l:=[_,_,_,_,_,_]) st rfl rfl rfl rfl ?_);intro b4 w hb4 st;refine a8 ?_;refine vif ?_ ?_;intro hc6;refine a2 ?_;refine zA3 (zA1 [_,_] rfl rfl call136 rfl (zE1 bw _ _ _ _ (by exact st.wrGet (i:=1) rfl) (Nat.le_trans hn0 st.chg.size) (by simp)) ?_);rintro _ w ⟨rfl,hp⟩;obtain⟨v,st⟩:=st.wr (i:=1) rfl hp;refine a1 ?_
 rotate_left
 intro hc6;refine a1 ?_
 all_goals
  refine a4 ?_;refine yla st 0 [_,_,_,_,_,_] qA42 qZ42 ?_;refine zA3 (zA1 [_,_] rfl rfl call217 rfl (hrec bw _ _ _ _ (hV.kept (hsame st.chg)) (by exact st.wrGet (i:=1) rfl) (Nat.le_trans hn0 st.chg.size)) ?_);rintro _ w ⟨rfl,hp⟩;obtain⟨v,st⟩:=st.wr (i:=1) rfl hp;refine a7 ?_;refine vif ?_ ?_;intro hc12;refine a2 ?_;refine zA3 (zA1 [_,_] rfl rfl call136 rfl (zE1 bw _ _ _ _ (by exact st.wrGet (i:=1) rfl) (Nat.le_trans hn0 st.chg.size) (by simp)) ?_);rintro _ w ⟨rfl,hp⟩;obtain⟨v,st⟩:=st.wr (i:=1) rfl hp;refine a1 ?_
  rotate_left
  intro hc12;refine a1 ?_
  all_goals
   refine zD4 (.inr rfl) results239 ?_;refine⟨_,rfl,?_⟩;refine⟨rfl,?_⟩
   first
    | (have h1 : b = true := by assumption
       have h2:b=false:=by assumption
       rw [h1] at h2;cases h2)
    | exact(st.wrDone (i:=1) rfl).eq (by simp [par, *])
set_option maxHeartbeats 2000000 in
theorem qE9:∀ (n:Nat) (e:Ex),szo e=n→∀ (d:Nat),zB9 e d=true→OkE e→∀ (bw:Nat) (v:Value) (F:List UInt8) (w:World) (l:List Value),ExV w (·<n0) e l→Wr 5 n0 162 bw v F w→n0≤w.heap.size→
    Ret Tryz.prog 217 [.pointer (some ⟨bw,0,none⟩),.agg l.toArray] w fun r w'=>r=.tuple #[]∧WrP 5 n0 162 bw v (F++txtE e) w w':=by
 intro n;refine Nat.strongRecOn n fun n ih=>?_
 intro e hn d hR hok bw v F w l hV hW hn0;subst hn;obtain⟨oa,cap,rfl,hr⟩:=ExV.inv hV;refine zB [_,_] func217 rfl ntmps217 rfl ?_;have st:=St.init w [];clear st;obtain⟨w0,rfl⟩:∃ w0,w0=w:=⟨_,rfl⟩
 have st:=St.wrInit hW;have hsame:∀ {w1:World},Chg (bw::v.ownBlock.toList) w0 w1→Same (·<n0) w0 w1:=fun c=>hW.same c
 refine a2 ?_;refine zA3 (zT2 (l:=[_,_,_,_,_,_]) st rfl rfl rfl rfl ?_);intro b3 w hb3 st;refine a7 ?_;refine yfz 1 qU162 qZ4 ?_;obtain⟨lq,many,hb,ho,hws,hx1,hx2⟩:=st.wrGet (i:=1) rfl;refine vy (zD8 rfl qA4 (zZ hb)) ?_;refine a2 ?_;refine vif ?_ ?_;intro hc7;(try simp only [dn] at hc7);refine a2 ?_;refine zD4 (.inl rfl) results217 ?_
 rotate_left
 focus
  intro hc7;(try simp only [dn] at hc7);refine a4 ?_;refine vy (zC3 rfl qU42 rfl rfl qZ38 rfl) ?_;refine yl st 0 qA38 ?_;refine a9 ?_;refine vif ?_ ?_;intro hc43;(try simp only [dn] at hc43);refine a2 ?_;refine yfz 2 qU42 qZ2 ?_;refine yl st 0 qA2 ?_;refine zA3 (zA1 [_] rfl rfl call172 rfl (gF2 _ _ hok.wd) ?_);rintro _ w ⟨rfl,cw⟩;replace st:=st.call0 cw;refine zA3 (zA1 [_,_] rfl rfl call136 rfl (zE1 bw _ _ _ _ (by exact st.wrGet (i:=1) rfl) (Nat.le_trans hn0 st.chg.size) (by have:=gU3 e.wd hok.wd;omega)) ?_);rintro _ w ⟨rfl,hp⟩;obtain⟨v,st⟩:=st.wr (i:=1) rfl hp;dsimp only [zA0] at st;refine a1 ?_
  rotate_left
  focus
   intro hc43;(try simp only [dn] at hc43);refine a6 ?_;refine vif ?_ ?_;intro hc50;(try simp only [dn] at hc50);refine a2 ?_;refine yfz 3 qU42 qZ9 ?_;refine yl st 0 qA9 ?_;refine zA3 (zA1 [_,_] rfl rfl call136 rfl (zE1 bw _ _ _ _ (by exact st.wrGet (i:=1) rfl) (Nat.le_trans hn0 st.chg.size) (by have:=kO5 hR (by assumption);omega)) ?_);rintro _ w ⟨rfl,hp⟩;obtain⟨v,st⟩:=st.wr (i:=1) rfl hp;dsimp only [zA0] at st;refine a1 ?_
   rotate_left
   focus
    intro hc50;(try simp only [dn] at hc50);refine a6 ?_;refine vif ?_ ?_;intro hc56;(try simp only [dn] at hc56);obtain⟨x,hkx,d1,hR1⟩:=qX1 hR hc56;have hx:e.kids[0]?=some x:=by rw [hkx];rfl
    have hk1:e.kids.length=1:=by rw [hkx];rfl
    obtain⟨gb,go,rfl,hgS,hgl,hg⟩:=ExRow.at hr (by omega);obtain⟨o0,c0,hV0,hr0,hc0⟩:=hg 0 x hx;refine a3 ?_;refine yfz 1 qU42 qZ39 ?_;refine yl st 0 qA39 ?_;refine zA3 (zA1 [_] rfl rfl call238 rfl (qO0 _ hok.op.1 _) ?_);rintro _ w ⟨rfl,cw⟩;replace st:=st.call0 cw;refine zA3 (zA1 [_,_] rfl rfl call136 rfl (zE1 bw _ _ _ _ (by exact st.wrGet (i:=1) rfl) (Nat.le_trans hn0 st.chg.size) (by have:=qM3 e.op;omega)) ?_);rintro _ w ⟨rfl,hp⟩;obtain⟨v,st⟩:=st.wr (i:=1) rfl hp;dsimp only [zA0] at st;refine a2 ?_;refine vdr Tryz.mixed [Yt 0,Yt 1,Yt 2,Yt 3,Yt 4,Yt 5,Yt 6,Yt 7,Yt 8,Yt 9,Yt 10,Nt 11] [.blk b3 (.cells (exL e (some ⟨gb,go,none⟩) cap).toArray 42 (0,0))] st ?_;clear st;intro w st hS;refine pm hS ?_;refine pfz hS 4 qU42 qZ40 ?_;refine pld hS 0 qA40 ?_;refine zA2 rfl rfl rfl hS (fun w st=>zM3 (k:=0) rfl rfl qU40 qZ42 rfl (by omega)) ?_;refine zA2 rfl rfl rfl hS (fun w st=>zE6 (exL x o0 c0) rfl qA42 qZ42 rfl (fun i v hi=>st.chg.cell (hc0 i v hi) (hW.notin hgS))) ?_;refine pfz hS 4 qU42 qZ40 ?_;refine pld hS 0 qA40 ?_;refine zA2 rfl rfl rfl hS (fun w st=>zM3 (k:=0) rfl rfl qU40 qZ42 rfl (by omega)) ?_;refine pf0 hS qU42 qZ38 ?_;refine zA2 rfl rfl rfl hS (fun w st=>zD8 rfl qA38 (st.chg.cell (hc0 0 _ rfl) (hW.notin hgS))) ?_;refine zA2 rfl rfl rfl hS (fun w st=>zK5 rfl rfl) ?_;refine zD0 rfl (zA1 [_,_,_] rfl rfl call239 rfl (gI0 x (fun bw v F w l hV hW hn=>ih (szo x) (by have:=zF2 hx;have:=zL1 e;omega) x rfl d1 hR1 (hok.kid hx) bw v F w l hV hW hn) _ _ _ bw _ _ _ (hV0.kept (hsame st.chg)) (by exact st.wrGet (i:=1) rfl) (Nat.le_trans hn0 st.chg.size)) ?_)
    rotate_left
    intro hc56;(try simp only [dn] at hc56);have hk4:e.k=4:=by rcases qW2 hR with h|h|h|h <;> first|exact h|(exfalso;omega)
    obtain⟨x,y,hkx,⟨d1,hR1⟩,d2,hR2⟩:=qW7 hR hk4;have hx:e.kids[0]?=some x:=by rw [hkx];rfl
    have hy:e.kids[1]?=some y:=by rw [hkx];rfl
    have hk2:e.kids.length=2:=by rw [hkx];rfl
    obtain⟨gb,go,rfl,hgS,hgl,hg⟩:=ExRow.at hr (by omega);obtain⟨o0,c0,hV0,hr0,hc0⟩:=hg 0 x hx;obtain⟨o1,c1,hV1,hr1,hc1⟩:=hg 1 y hy;refine a1 ?_;refine vdr Tryz.mixed [Yt 0,Yt 1,Yt 2,Yt 3,Yt 4,Yt 5,Yt 6,Yt 7,Yt 8,Yt 9,Yt 10,Nt 11,Nt 12] [.blk b3 (.cells (exL e (some ⟨gb,go,none⟩) cap).toArray 42 (0,0))] st ?_;clear st;intro w st hS;refine pm hS ?_;refine pfz hS 4 qU42 qZ40 ?_;refine pld hS 0 qA40 ?_;refine zA2 rfl rfl rfl hS (fun w st=>zM3 (k:=0) rfl rfl qU40 qZ42 rfl (by omega)) ?_;refine zA2 rfl rfl rfl hS (fun w st=>zE6 (exL x o0 c0) rfl qA42 qZ42 rfl (fun i v hi=>st.chg.cell (hc0 i v hi) (hW.notin hgS))) ?_;refine pfz hS 1 qU42 qZ39 ?_;refine pld hS 0 qA39 ?_;refine pfz hS 4 qU42 qZ40 ?_;refine pld hS 0 qA40 ?_;refine zA2 rfl rfl rfl hS (fun w st=>zM3 (k:=0) rfl rfl qU40 qZ42 rfl (by omega)) ?_;refine zA2 rfl rfl rfl hS (fun w st=>zE6 (exL x o0 c0) rfl qA42 qZ42 rfl (fun i v hi=>st.chg.cell (hc0 i v hi) (hW.notin hgS))) ?_;refine zD0 rfl (zA1 [_,_,_] rfl rfl call236 rfl (qQ8 _ hok.op x false _ _ _ (hok.kid hx)) ?_);rintro _ w ⟨rfl,cw⟩;replace st:=st.call0 cw;refine zA9 st.dr ?_;intro hS;refine zD0 rfl (zA1 [_,_,_] rfl rfl call239 rfl (gI0 x (fun bw v F w l hV hW hn=>ih (szo x) (by have:=zF2 hx;have:=zL1 e;omega) x rfl d1 hR1 (hok.kid hx) bw v F w l hV hW hn) _ _ _ bw _ _ _ (hV0.kept (hsame st.chg)) (by exact st.wrGet (i:=1) rfl) (Nat.le_trans hn0 st.chg.size)) ?_);rintro _ w ⟨rfl,hp⟩;obtain⟨v,st⟩:=st.wr (i:=1) rfl hp;dsimp only [zA0] at st;refine zA9 st.dr ?_;intro hS;refine zC6 (zA6 (sr ?_));refine a1 ?_;refine yfz 1 qU42 qZ39 ?_;refine yl st 0 qA39 ?_;refine zA3 (zA1 [_] rfl rfl call238 rfl (qO0 _ hok.op.1 _) ?_);rintro _ w ⟨rfl,cw⟩;replace st:=st.call0 cw;(iterate 2 refine vy (qV8 rfl rfl (by have:=qM3 e.op;simp only [List.length_append,List.length_cons,List.length_nil];omega)) ?_);refine zA3 (zA1 [_,_] rfl rfl call136 rfl (zE1 bw _ _ _ _ (by exact st.wrGet (i:=1) rfl) (Nat.le_trans hn0 st.chg.size) (by have:=qM3 e.op;simp only [List.length_append,List.length_cons,List.length_nil];omega)) ?_);rintro _ w ⟨rfl,hp⟩;obtain⟨v,st⟩:=st.wr (i:=1) rfl hp;dsimp only [zA0] at st;refine a2 ?_;refine vdr Tryz.mixed [Yt 0,Yt 1,Yt 2,Yt 3,Yt 4,Yt 5,Yt 6,Yt 7,Yt 8,Yt 9,Yt 10,Nt 11,Nt 12] [.blk b3 (.cells (exL e (some ⟨gb,go,none⟩) cap).toArray 42 (0,0))] st ?_;clear st;intro w st hS;refine pm hS ?_;refine pfz hS 4 qU42 qZ40 ?_;refine pld hS 0 qA40 ?_;refine zA2 rfl rfl rfl hS (fun w st=>zM3 (k:=1) rfl rfl qU40 qZ42 rfl (by omega)) ?_;refine zA2 rfl rfl rfl hS (fun w st=>zE6 (exL y o1 c1) rfl qA42 qZ42 rfl (fun i v hi=>st.chg.cell (hc1 i v hi) (hW.notin hgS))) ?_
    refine pfz hS 1 qU42 qZ39 ?_;refine pld hS 0 qA39 ?_;refine pfz hS 4 qU42 qZ40 ?_;refine pld hS 0 qA40 ?_;refine zA2 rfl rfl rfl hS (fun w st=>zM3 (k:=1) rfl rfl qU40 qZ42 rfl (by omega)) ?_;refine zA2 rfl rfl rfl hS (fun w st=>zE6 (exL y o1 c1) rfl qA42 qZ42 rfl (fun i v hi=>st.chg.cell (hc1 i v hi) (hW.notin hgS))) ?_;refine zD0 rfl (zA1 [_,_,_] rfl rfl call236 rfl (qQ8 _ hok.op y true _ _ _ (hok.kid hy)) ?_);rintro _ w ⟨rfl,cw⟩;replace st:=st.call0 cw;refine zA9 st.dr ?_;intro hS;refine zD0 rfl (zA1 [_,_,_] rfl rfl call239 rfl (gI0 y (fun bw v F w l hV hW hn=>ih (szo y) (by have:=zF2 hy;have:=zL1 e;omega) y rfl d2 hR2 (hok.kid hy) bw v F w l hV hW hn) _ _ _ bw _ _ _ (hV1.kept (hsame st.chg)) (by exact st.wrGet (i:=1) rfl) (Nat.le_trans hn0 st.chg.size)) ?_)
    all_goals
     rintro _ w ⟨rfl,hp⟩;obtain⟨v,st⟩:=st.wr (i:=1) rfl hp;dsimp only [zA0] at st;refine zA9 st.dr ?_;intro hS;refine zC6 ?_
  all_goals
   refine a1 ?_;refine zD4 (.inr rfl) results217 ?_
 all_goals
  refine⟨_,rfl,?_⟩;refine⟨rfl,?_⟩
  first
   | (have hm : many = true := by assumption
      subst hm
      exact(st.wrDone (i:=1) rfl).over hb)
   | exact(st.wrDone (i:=1) rfl).eq (by first|rw [kM8 (e:=e) (by assumption)]|rw [kH7 (e:=e) (by assumption)]|(rw [kN4 (e:=e) (by assumption) hkx];simp only [List.append_assoc])|(rw [kQ3 (e:=e) (by assumption) hkx];simp only [List.append_assoc]))
end
theorem gX2 (n:Int) (h:-9223372036854775808≤n∧n≤9223372036854775807):IntKind.i64.wrap n=n:=by
 simp only [IntKind.wrap,IntKind.bits,IntKind.signed];simp;omega
theorem zO0 {α:Type} {p:α→Bool} {l:List α} {j:Nat} {x:α} (h:(l.take j).all p=true) (hx:l[j]?=some x) (hp:p x=true):(l.take (j+1)).all p=true:=by
 obtain⟨hj,e⟩:=List.getElem?_eq_some_iff.1 hx;rw [List.take_succ_eq_append_getElem hj,List.all_append,h,e];simpa using hp
theorem zR7 {α:Type} {p:α→Bool} {l:List α} {j:Nat} {x:α} (hx:l[j]?=some x) (hp:p x=false):l.all p=false:=by
 rw [List.all_eq_false];exact⟨x,List.mem_of_getElem? hx,by rw [hp];simp⟩
theorem qK4 {α:Type} {p:α→Bool} {l:List α} {j:Nat} (h:(l.take j).all p=true) (hj:l.length≤j):l.all p=true:=by
 rwa [List.take_of_length_le hj] at h
theorem qO9:∀ (l:List Sm) (d:Nat),zE3 l d=l.all (zH9 · d)
 | [],d=>rfl
 | s::r,d=>by simp only [zE3,List.all_cons];rw [qO9 r d]
theorem rightS_iff {s:Sm} {d:Nat}:zH9 s d=true↔(1≤s.k∧s.k≤7)∧zR9 (qF6 s.k) s.nm=true∧zR9 (decide (s.k=2)) s.other=true∧zH5 (zW9 s.k) s.e=true∧(qA1 s.k=true∨s.body.length=0)∧(s.k=3∨s.els.length=0)∧
    ((qA1 s.k=false∧s.els.length=0)∨d<64)∧zE3 s.body (d+1)=true∧zE3 s.els (d+1)=true:=by
 cases s with
 | mk k nm other e body els a=>
  simp only [zH9,Bool.and_eq_true,Bool.or_eq_true,decide_eq_true_eq,Bool.not_eq_true',Bool.or_eq_false_iff,decide_eq_false_iff_not,Sm.k,Sm.nm,Sm.other,Sm.e,Sm.body,Sm.els]
  have e:(¬ 0<els.length)↔els.length=0:=by omega
  rw [e]
  constructor
  ·rintro ⟨⟨⟨⟨⟨⟨⟨⟨h1,h2⟩,h3⟩,h4⟩,h5⟩,h6⟩,h7⟩,h8⟩,h9⟩
   exact⟨h1,h2,h3,h4,h5,h6,h7,h8,h9⟩
  ·rintro ⟨h1,h2,h3,h4,h5,h6,h7,h8,h9⟩
   exact⟨⟨⟨⟨⟨⟨⟨⟨h1,h2⟩,h3⟩,h4⟩,h5⟩,h6⟩,h7⟩,h8⟩,h9⟩
theorem qM6 {e:List Ex} {x:Ex} (h:e.length=1) (hx:e[0]?=some x):zH5 true e=zB9 x 0:=by
 rw [qI7 h hx];rfl
theorem gH1 {e:List Ex} (h:e.length≠1):zH5 true e=false:=by
 unfold zH5;rcases e with _|⟨x,_|⟨y,r⟩⟩ <;> simp_all
theorem qT6 {e:List Ex}:zH5 false e=decide (e.length=0):=rfl
theorem zI1 {l:List Sm} {s:Sm} {d j:Nat} (hj:l[j]?=some s) (h:zH9 s d=true→False):Value.bool false=Value.bool (zE3 l d):=by
 rw [qR2 (s:=s) (by cases hr:zH9 s d;rfl;exact(h hr).elim) hj]
theorem qL (s:Sm):szo s.body<szo s∧szo s.els<szo s:=by cases s;exact sm_size
abbrev jF7 (k:Int):List Value:=[.bool (qF6 k),.bool (decide (k=2)),.bool (zW9 k),.bool (qA1 k),.bool (decide (k=3))]
def tabL:List Value:=[.bool false,.bool false,.bool false,.bool false,.bool false,
  .bool true,.bool false,.bool true,.bool false,.bool false,.bool true,.bool true,.bool true,.bool false,.bool false,
  .bool false,.bool false,.bool true,.bool true,.bool true,.bool false,.bool false,.bool true,.bool true,.bool false,
  .bool true,.bool false,.bool false,.bool true,.bool false,.bool false,.bool false,.bool true,.bool false,.bool false,
  .bool false,.bool false,.bool false,.bool false,.bool false]
theorem jB4 {w:World} {b E:Nat} (h:w.heap[b]?=some (.cells tabL.toArray E (0,0))) {m:Nat} (hm:m<8):∀ (i:Nat) v,(jF7 m)[i]?=some v→w.cell? ⟨b,0+m*5+i,none⟩=some v:=by
 intro i v hi;refine zD7 h ?_
 rcases (show m=0∨m=1∨m=2∨m=3∨m=4∨m=5∨m=6∨m=7 by omega) with rfl|rfl|rfl|rfl|rfl|rfl|rfl|rfl <;>
  (rcases i with _|_|_|_|_|i <;> first|(simp at hi;done)|(simp at hi;subst hi;rfl))
theorem qY0:∀ (a b:List Sm) (d:Nat),zJ6 (a++b) d=zJ6 a d++zJ6 b d
 | [],b,d=>rfl
 | s::r,b,d=>by simp only [List.cons_append,zJ6];rw [qY0 r b d,List.append_assoc]
theorem qQ7 {ss:List Sm} {d j:Nat} {s:Sm} (h:ss[j]?=some s):zJ6 (ss.take (j+1)) d=zJ6 (ss.take j) d++qK6 s d:=by
 obtain⟨hj,e⟩:=List.getElem?_eq_some_iff.1 h;rw [List.take_succ_eq_append_getElem hj,qY0,e];simp [zJ6]
theorem qJ9 (ss:List Sm) (d j:Nat):zJ6 ss d=zJ6 (ss.take j) d++zJ6 (ss.drop j) d:=by
 rw [← qY0,List.take_append_drop]
def hdS (s:Sm):List UInt8:=
 if s.k=1 then s.nm++[32,61,32]++txX s.e++[59,10]
 else if s.k=2 then s.nm++[32,61,32,115,119,97,112,40]++s.other++[44,32]++txX s.e++[41,59,10]
 else if s.k=6 then [112,114,105,110,116,32]++txX s.e++[59,10]
 else if s.k=7 then [115,107,105,112,59,10]
 else if s.k=5 then [108,111,99,107,32]++s.nm++[32,123,10]
 else (if s.k=4 then [119,104,105,108,101,32,40] else [105,102,32,40])++txX s.e++[41,32,123,10]
theorem zT7 {s:Sm} {d:Nat} (h:s.k=1∨s.k=2∨s.k=6∨s.k=7):qK6 s d=mar d++hdS s:=by
 cases s with
 | mk k nm other e body els a=>
  change k=1∨k=2∨k=6∨k=7 at h
  unfold qK6 hdS
  simp only [Sm.k,Sm.nm,Sm.other,Sm.e]
  rcases h with rfl|rfl|rfl|rfl <;> rfl
theorem gB1 {s:Sm} {d:Nat} (h:s.k=5):qK6 s d=mar d++hdS s++zJ6 s.body (d+1)++mar d++[125,10]:=by
 cases s with
 | mk k nm other e body els a=>
  change k=5 at h
  subst h
  unfold qK6 hdS
  simp only [Sm.k,Sm.nm,Sm.other,Sm.e,Sm.body]
  rfl
theorem zT8 {s:Sm} {d:Nat} (h:s.k=3∨s.k=4):qK6 s d=mar d++hdS s++zJ6 s.body (d+1)++(if 0<s.els.length then mar d++[125,32,101,108,115,101,32,123,10]++zJ6 s.els (d+1) else [])++mar d++[125,10]:=by
 cases s with
 | mk k nm other e body els a=>
  change k=3∨k=4 at h
  unfold qK6 hdS
  simp only [Sm.k,Sm.nm,Sm.other,Sm.e,Sm.body,Sm.els]
  rcases h with rfl|rfl <;> rfl
def kZ1 (l:List Dc):List UInt8:=if l.length=0 then [] else [32]++zU (l.map dcT)
theorem gD6:∀ (l:List (List UInt8)) (x:List UInt8),l≠[]→zU (l++[x])=zU l++[44,32]++x
 | [],x,h=>absurd rfl h
 | [y],x,_=>by simp [zU]
 | y::z::r,x,_=>by
  have ih:=gD6 (z::r) x (by simp)
  simp only [List.cons_append,zU] at ih ⊢
  rw [ih];simp
theorem kJ2 {ds:List Dc} {j:Nat} {x:Dc} (h:ds[j]?=some x):kZ1 (ds.take (j+1))=kZ1 (ds.take j)++(if 0<j then [44] else [])++([32]++x.nm)++(if x.wd=0 then [] else [32,61,32]++shw x.wd):=by
 obtain⟨hj,e⟩:=List.getElem?_eq_some_iff.1 h;rw [List.take_succ_eq_append_getElem hj,e];unfold kZ1;rw [if_neg (by simp),List.map_append,List.map_singleton];rcases Nat.eq_zero_or_pos j with rfl|hj0;simp [zU,dcT]
 rw [if_neg (by rw [List.length_take];omega),if_pos hj0,gD6 _ _ (by
   intro h0
   have:=congrArg List.length h0
   rw [List.length_map,List.length_take,List.length_nil] at this
   omega)]
 simp [dcT]
theorem jG0 {word:List UInt8} {d:Nat} {l:List Dc} (h:0<l.length):gD5 word d l=mar d++(word++kZ1 l++[59,10]):=by
 unfold gD5 kZ1;rw [if_neg (by omega),if_neg (by omega)];simp
theorem qM0 {e:List Ex} {x:Ex} (h:e[0]?=some x):txX e=txtE x:=by
 cases e with
 | nil=>simp at h
 | cons y r=>simp at h;subst h;rfl
theorem zP5 {b:Bool} {e:List Ex} (hb:b=true) (h:zH5 b e=true):∃ x,e[0]?=some x∧e.length=1∧zB9 x 0=true:=by
 subst hb
 by_cases h1:e.length=1
 obtain⟨x,hx⟩:=kR9 h1 (by omega);rw [qM6 h1 hx] at h;exact⟨x,hx,h1,h⟩;rw [gH1 h1] at h;cases h
section
variable {n0:Nat}
set_option maxHeartbeats 2000000 in
theorem qP1 (ds:List Dc) (b:Bool) (hR:ds.all (zQ1 b)=true) (hok:OkD ds) (word:List UInt8) (hwd:word.length≤100) (oa:Option Addr) (cap:Nat) (bw:Nat) (v:Value) (F:List UInt8) (w:World) (hD:DcRow w (·<n0) oa ds) (hW:Wr 5 n0 162 bw v F w) (hn0:n0≤w.heap.size) :
    Ret Tryz.prog 135 [.pointer (some ⟨bw,0,none⟩),str word,.slice oa ds.length cap] w fun r w'=>r=.tuple #[]∧WrP 5 n0 162 bw v (F++gD5 word 0 ds) w w':=by
 refine zB [_,_,_] func135 rfl ntmps135 rfl ?_;have st:=St.init w [];clear st;obtain⟨w0,rfl⟩:∃ w0,w0=w:=⟨_,rfl⟩
 have st:=St.wrInit hW;have hsame:∀ {w1:World},Chg (bw::v.ownBlock.toList) w0 w1→Same (·<n0) w0 w1:=fun c=>hW.same c
 have hn:=hok.1;refine a4 ?_;refine vy (zB1 rfl qU23) ?_;refine a3 ?_;refine vif ?_ ?_;intro hc9;(try simp only [dn] at hc9);refine a2 ?_;refine zD4 (.inl rfl) results135 ?_;refine⟨_,rfl,?_⟩;refine⟨rfl,(st.wrDone (i:=0) rfl).eq ?_⟩;unfold gD5;rw [if_pos (by omega),List.append_nil];intro hc9;(try simp only [dn] at hc9);refine a6 ?_;refine zA3 (zA1 [_,_] rfl rfl call136 rfl (zE1 bw _ _ _ _ (by exact st.wrGet (i:=0) rfl) (Nat.le_trans hn0 st.chg.size) (by omega)) ?_);rintro _ w ⟨rfl,hp⟩;obtain⟨v9,st⟩:=st.wr (i:=0) rfl hp;dsimp only [zA0] at st;refine a9 ?_;refine zC (w0:=w0) (M:=(bw::v.ownBlock.toList)) (fun (x:Nat×Value)=>[(0,.pointer (some ⟨bw,0,none⟩)),(2,.slice oa ds.length cap),(6,.int .i64 (x.1:Int))]) (fun x=>[wrR (bw::v.ownBlock.toList) w0.heap.size 5 n0 162 bw x.2 (F++word++kZ1 (ds.take x.1))]) (fun x _=>x.1≤ds.length) (fun x=>ds.length - x.1) (0,v9) ⟨rfl,rfl,rfl,trivial⟩ (by simpa [kZ1] using st) (by simp) ?_;clear st;rintro ⟨j,v1⟩ w hj st;dsimp only at *;refine a5 ?_;refine vy (zB1 rfl qU23) ?_;refine a3 ?_;refine vif ?_ ?_
 ·intro hc16;(try simp only [dn] at hc16);obtain⟨x,hx⟩:∃ x,ds[j]?=some x:=⟨_,List.getElem?_eq_getElem (by omega)⟩
  obtain⟨gb,go,rfl,hgS,hgl,hg⟩:=DcRow.at hD (by omega);have hc:=hg j x hx;have hxo:=hok.2 j x hx;have hxr:zQ1 b x=true:=List.all_eq_true.1 hR x (List.mem_of_getElem? hx);have hxn:x.nm.length≤32:=by unfold zQ1 at hxr;simp only [Bool.and_eq_true] at hxr;exact zL9 hxr.1
  have hxs:=gU3 x.wd hxo.1;refine a2 ?_;refine zL2 (w0:=w0) (M:=(bw::v.ownBlock.toList)) (fun (_:Value)=>[(0,.pointer (some ⟨bw,0,none⟩)),(2,.slice (some ⟨gb,go,none⟩) ds.length cap),(6,.int .i64 (j:Int))]) (fun v1=>[wrR (bw::v.ownBlock.toList) w0.heap.size 5 n0 162 bw v1 (F++word++kZ1 (ds.take (j+1)))]) (fun _ _=>True) ?_ ?_
  ·refine a1 ?_;refine zL2 (w0:=w0) (M:=(bw::v.ownBlock.toList)) (fun (_:Value)=>[(0,.pointer (some ⟨bw,0,none⟩)),(2,.slice (some ⟨gb,go,none⟩) ds.length cap),(6,.int .i64 (j:Int))]) (fun v1=>[wrR (bw::v.ownBlock.toList) w0.heap.size 5 n0 162 bw v1 (F++word++kZ1 (ds.take j)++(if 0<j then [44] else []))]) (fun _ _=>True) ?_ ?_
   ·refine a6 ?_;refine vif ?_ ?_;intro hc20;(try simp only [dn] at hc20);refine a2 ?_;refine zA3 (zA1 [_,_] rfl rfl call136 rfl (zE1 bw _ _ _ _ (by exact st.wrGet (i:=0) rfl) (Nat.le_trans hn0 st.chg.size) (by simp only [List.length_append,List.length_cons,List.length_nil];omega)) ?_);rintro _ w ⟨rfl,hp⟩;obtain⟨v9,st⟩:=st.wr (i:=0) rfl hp;dsimp only [zA0] at st;refine a1 ?_
    rotate_left
    intro hc20;(try simp only [dn] at hc20);refine a1 ?_
    all_goals
     refine zB8 _ ⟨rfl,rfl,rfl,trivial⟩ (by first|(rw [if_pos (by omega)];exact st)|(rw [if_neg (by omega),List.append_nil];exact st)) ?_;trivial
   clear st;rintro v2 w - st;refine a5 ?_;refine vy (zM3 (k:=j) rfl rfl qU23 qZ63 rfl (by omega)) ?_;refine vy (zC3 rfl qU63 rfl rfl qZ9 rfl) ?_;refine vy (zD8 rfl qA9 (st.chg.cell (hc 0 _ rfl) (hW.notin hgS))) ?_;refine vy (qV8 rfl rfl (by simp only [List.length_append,List.length_cons,List.length_nil];omega)) ?_;refine zA3 (zA1 [_,_] rfl rfl call136 rfl (zE1 bw _ _ _ _ (by exact st.wrGet (i:=0) rfl) (Nat.le_trans hn0 st.chg.size) (by simp only [List.length_append,List.length_cons,List.length_nil];omega)) ?_);rintro _ w ⟨rfl,hp⟩;obtain⟨v9,st⟩:=st.wr (i:=0) rfl hp;dsimp only [zA0] at st;refine a6 ?_;refine vy (zM3 (k:=j) rfl rfl qU23 qZ63 rfl (by omega)) ?_;refine vy (zU9 (k:=1) rfl qU63 rfl rfl qZ2 rfl) ?_;refine vy (zD8 rfl qA2 (st.chg.cell (hc 1 _ rfl) (hW.notin hgS))) ?_;refine a3 ?_;refine vif ?_ ?_;intro hc36;(try simp only [dn] at hc36);refine a4 ?_;refine vy (zM3 (k:=j) rfl rfl qU23 qZ63 rfl (by omega)) ?_;refine vy (zU9 (k:=1) rfl qU63 rfl rfl qZ2 rfl) ?_;refine vy (zD8 rfl qA2 (st.chg.cell (hc 1 _ rfl) (hW.notin hgS))) ?_;refine zA3 (zA1 [_] rfl rfl call172 rfl (gF2 _ _ hxo.1) ?_);rintro _ w ⟨rfl,cw⟩;replace st:=st.call0 cw;refine vy (qV8 rfl rfl (by simp only [List.length_append,List.length_cons,List.length_nil];omega)) ?_;refine zA3 (zA1 [_,_] rfl rfl call136 rfl (zE1 bw _ _ _ _ (by exact st.wrGet (i:=0) rfl) (Nat.le_trans hn0 st.chg.size) (by simp only [List.length_append,List.length_cons,List.length_nil];omega)) ?_);rintro _ w ⟨rfl,hp⟩;obtain⟨v9,st⟩:=st.wr (i:=0) rfl hp;dsimp only [zA0] at st;refine a1 ?_
   rotate_left
   intro hc36;(try simp only [dn] at hc36);refine a1 ?_
   all_goals
    refine a1 ?_;refine zB8 _ ⟨rfl,rfl,rfl,trivial⟩ (by rw [kJ2 hx];first|(rw [if_neg (by omega:¬ x.wd=0)];simpa only [List.append_assoc] using st)|(rw [if_pos (by omega:x.wd=0),List.append_nil];simpa only [List.append_assoc] using st)) ?_;trivial
  clear st;rintro v2 w - st;refine a2 ?_;refine vy (yin ((j+1:Nat):Int)) ?_;refine a2 ?_;refine zA7 (j+1,v2)  ⟨rfl,rfl,rfl,trivial⟩ st ?_ ?_;dsimp only;omega;dsimp only;omega
 intro hc16;(try simp only [dn] at hc16);obtain rfl:j=ds.length:=by omega
 rw [List.take_length] at st;refine a7 ?_;refine zA3 (zA1 [_,_] rfl rfl call136 rfl (zE1 bw _ _ _ _ (by exact st.wrGet (i:=0) rfl) (Nat.le_trans hn0 st.chg.size) (by simp only [List.length_append,List.length_cons,List.length_nil];omega)) ?_);rintro _ w ⟨rfl,hp⟩;obtain⟨v9,st⟩:=st.wr (i:=0) rfl hp;dsimp only [zA0] at st;refine a1 ?_;refine zD4 (.inr rfl) results135 ?_;refine⟨_,rfl,?_⟩;refine⟨rfl,(st.wrDone (i:=0) rfl).eq ?_⟩;rw [jG0 (by omega)];simp [mar]
end
end Go.Proofs.YtnmhlpnapgojjaaGreatDoor
