/- Part 1 of a verified symbolic walk over the model's code: what it says of a function's code holds of every run of it. No condition. -/
import Derived.WalkKit
import Derived.RangeFuncIn
import Derived.OrdersIn
import Derived.Below
import Derived.Laws.AppendOwn
import Derived.Laws.StructEq
import Derived.Great.BuildSlice
set_option linter.unusedVariables false
set_option linter.unusedSimpArgs false

namespace Go.Sx
theorem dcT{p : Prop}[Decidable p](h : decide p = true) : p := _root_.of_decide_eq_true h
theorem dcF{p : Prop}[Decidable p](h : decide p = false) : ¬p := _root_.of_decide_eq_false h
theorem nbT{n m : Nat}(h : Nat.beq n m = true) : n = m := _root_.Nat.eq_of_beq_eq_true h
inductive Ty where
 |int (k:IntKind)
 |bool
 |str
 |unit
 |pair (a b:Ty)
 |sl (e:Ty)
 |arr (e:Ty) (n:Nat)
def kB(a b:IntKind):Bool:=match a,b with
 |.i8,.i8 |.i16,.i16 |.i32,.i32 |.i64,.i64 |.u8,.u8 |.u16,.u16 |.u32,.u32 |.u64,.u64=>true
 |_,_=>false
theorem gY{a b:IntKind}(h:kB a b=true):a=b:=by cases a<;>cases b<;>first |rfl |cases h
def Ty.beq:Ty->Ty->Bool
 |.int a,.int b=>kB a b
 |.bool,.bool=>true
 |.str,.str=>true
 |.unit,.unit=>true
 |.pair a b,.pair c d=>Ty.beq a c&&Ty.beq b d
 |.sl a,.sl b=>Ty.beq a b
 |.arr a n,.arr b m=>Ty.beq a b&&Nat.beq n m
 |_,_=>false
theorem Ty.beq_eq:∀{a b:Ty},Ty.beq a b=true->a=b
 |.int a,.int b,h=>by rw[gY (show kB a b=true from h)]
 |.bool,.bool,_=>rfl
 |.str,.str,_=>rfl
 |.unit,.unit,_=>rfl
 |.pair a b,.pair c d,h=>by
  simp only[Ty.beq,Bool.and_eq_true] at h
  rw[Ty.beq_eq h.1,Ty.beq_eq h.2]
 |.sl a,.sl b,h=>by rw[Ty.beq_eq (show Ty.beq a b=true from h)]
 |.arr a n,.arr b m,h=>by
  simp only[Ty.beq,Bool.and_eq_true] at h
  rw[Ty.beq_eq h.1,nbT h.2]
 |.int _,.bool,h |.int _,.str,h |.int _,.unit,h |.int _,.pair _ _,h |.int _,.sl _,h=>by cases h
 |.bool,.int _,h |.bool,.str,h |.bool,.unit,h |.bool,.pair _ _,h |.bool,.sl _,h=>by cases h
 |.str,.int _,h |.str,.bool,h |.str,.unit,h |.str,.pair _ _,h |.str,.sl _,h=>by cases h
 |.unit,.int _,h |.unit,.bool,h |.unit,.str,h |.unit,.pair _ _,h |.unit,.sl _,h=>by cases h
 |.pair _ _,.int _,h |.pair _ _,.bool,h |.pair _ _,.str,h |.pair _ _,.unit,h |.pair _ _,.sl _,h=>by cases h
 |.sl _,.int _,h |.sl _,.bool,h |.sl _,.str,h |.sl _,.unit,h |.sl _,.pair _ _,h=>by cases h
 |.int _,.arr _ _,h |.bool,.arr _ _,h |.str,.arr _ _,h |.unit,.arr _ _,h |.pair _ _,.arr _ _,h |.sl _,.arr _ _,h=>by cases h
 |.arr _ _,.int _,h |.arr _ _,.bool,h |.arr _ _,.str,h |.arr _ _,.unit,h |.arr _ _,.pair _ _,h |.arr _ _,.sl _,h=>by cases h
def Ty.den:Ty->Type
 |.int _=>Int
 |.bool=>Bool
 |.str=>ByteArray
 |.unit=>Unit
 |.pair a b=>a.den × b.den
 |.sl e=>List e.den
 |.arr e _=>List e.den
def Ty.size:Ty->Nat
 |.int _ |.bool |.str |.sl _=>1
 |.unit=>0
 |.pair a b=>a.size+b.size
 |.arr e n=>n*e.size
def Ty.gB:(t:Ty)->t.den
 |.int _=>(0:Int)
 |.bool=>false
 |.str=>(ByteArray.empty:ByteArray)
 |.unit=>()
 |.pair a b=>(a.gB,b.gB)
 |.sl _=>[]
 |.arr e n=>List.replicate n e.gB
def gF(w:World)(b o:Nat)(vs:List Value):Prop:=∀j v,vs[j]? = some v->w.cell? ⟨b,o+j,none⟩=some v/\w.frozen? ⟨b,o+j,none⟩=false
def wS{α:Type}(I:Nat->Prop) (w:World) (sz:Nat) (R:α->List Value->Prop) (l:List α) (v:Value):Prop :=
 ∃p cap,v = .slice p l.length cap/\l.length<=cap /\
  (l=[]\/∃b o,p=some ⟨b,o,none⟩/\I b/\∀(i:Nat)(d:α),l[i]? = some d->∃cs,gF w b (o+i*sz) cs/\R d cs)
def gN{α:Type}(R:α->List Value->Prop):List α->List Value->Prop
 | [],xs=>xs=[]
 |d::l,xs=>∃a b,xs=a++b/\R d a/\gN R l b
theorem gN.mono{α:Type}{R R' : α->List Value->Prop}(h:∀d xs,R d xs->R' d xs):∀{l:List α}{xs:List Value},gN R l xs->gN R' l xs
 | [],_,k=>k
 |d::l,_,k=>by
  obtain⟨a,b,e,h1,h2⟩:=k
  exact⟨a,b,e,h _ _ h1,gN.mono h h2⟩
theorem gN.length{α:Type}{R:α->List Value->Prop}{n:Nat}(h:∀d xs,R d xs->xs.length=n):∀{l:List α}{xs:List Value},gN R l xs->xs.length=l.length*n
 | [],_,k=>by rw[show _=_ from k];simp
 |d::l,_,k=>by
  obtain⟨a,b,e,h1,h2⟩:=k
  rw[e,List.length_append,h _ _ h1,gN.length h h2,List.length_cons,Nat.succ_mul,Nat.add_comm]
def zG(I:Nat->Prop)(w:World):(t:Ty)->t.den->List Value->Prop
 |.int k,n,vs=>vs=[.int k n]
 |.bool,b,vs=>vs=[.bool b]
 |.str,s,vs=>vs=[.string s]
 |.unit,_,vs=>vs=[]
 |.pair a b,d,vs=>∃x y,vs=x++y/\zG I w a d.1 x/\zG I w b d.2 y
 |.sl e,l,vs=>∃v,vs=[v]/\wS I w e.size (zG I w e) l v
 |.arr e n,l,vs=>(show List e.den from l).length=n/\gN (zG I w e) (show List e.den from l) vs
theorem cell_of_heap{w w' : World}{b:Nat}(h:w'.heap[b]? = w.heap[b]?) (o:Nat) (s:Option Nat):w'.cell? ⟨b,o,s⟩=w.cell? ⟨b,o,s⟩:=by
 unfold World.cell?
 simp only[h]
theorem frozen_of_heap{w w' : World}{b:Nat}(h:w'.heap[b]? = w.heap[b]?) (o:Nat) (s:Option Nat):w'.frozen? ⟨b,o,s⟩=w.frozen? ⟨b,o,s⟩:=by
 unfold World.frozen?
 simp only[h]
theorem gF.of_heap{w w' : World}{b o:Nat}{vs:List Value}(hw:w'.heap[b]? = w.heap[b]?) (h:gF w b o vs):gF w' b o vs :=
 fun j v hv=>by rw[cell_of_heap hw,frozen_of_heap hw];exact h j v hv
theorem zG.mono{I I' : Nat->Prop}{w w' : World}(hI:∀b,I b->I' b) (hw:∀b,I b->w'.heap[b]? = w.heap[b]?) :
  ∀(t:Ty)(d:t.den)(vs:List Value),zG I w t d vs->zG I' w' t d vs
 |.int _,_,_,h=>h
 |.bool,_,_,h=>h
 |.str,_,_,h=>h
 |.unit,_,_,h=>h
 |.pair a b,d,_,h=>by
  obtain⟨x,y,e,h1,h2⟩:=h
  exact⟨x,y,e,zG.mono hI hw a _ _ h1,zG.mono hI hw b _ _ h2⟩
 |.sl e,l,_,h=>by
  obtain⟨v,ev,p,cap,e1,hc,h⟩:=h
  refine⟨v,ev,p,cap,e1,hc,?_⟩
  rcases h with h |⟨b,o,hp,hb,h⟩
  ·exact .inl h
  ·refine .inr ⟨b,o,hp,hI b hb,fun i d hd=>?_⟩
   obtain⟨cs,hr,hd'⟩:=h i d hd
   exact⟨cs,hr.of_heap (hw b hb),zG.mono hI hw e _ _ hd'⟩
 |.arr e n,l,_,h=>⟨h.1,gN.mono (fun d xs hd=>zG.mono hI hw e d xs hd) h.2⟩
theorem zG.length{I:Nat->Prop}{w:World}:∀(t:Ty)(d:t.den)(vs:List Value),zG I w t d vs->vs.length=t.size
 |.int _,_,_,h=>by rw[show _=_ from h];rfl
 |.bool,_,_,h=>by rw[show _=_ from h];rfl
 |.str,_,_,h=>by rw[show _=_ from h];rfl
 |.unit,_,_,h=>by rw[show _=_ from h];rfl
 |.pair a b,d,_,h=>by
  obtain⟨x,y,e,h1,h2⟩:=h
  rw[e,List.length_append,zG.length a _ _ h1,zG.length b _ _ h2];rfl
 |.sl e,l,_,h=>by
  obtain⟨v,ev,h⟩:=h
  rw[ev];rfl
 |.arr e n,l,_,h=>by
  rw[gN.length (fun d xs hd=>zG.length e d xs hd) h.2,h.1];rfl
def zZ(I:Nat->Prop)(w:World)(t:Ty):List t.den->List Value->Prop
 | [],xs=>xs=[]
 |d::l,xs=>∃a b,xs=a++b/\zG I w t d a/\zZ I w t l b
theorem gN.flat{I:Nat->Prop}{w:World}{t:Ty}:∀{l:List t.den}{xs:List Value},gN (zG I w t) l xs->zZ I w t l xs
 | [],_,h=>h
 |d::l,_,h=>by
  obtain⟨a,b,e,h1,h2⟩:=h
  exact⟨a,b,e,h1,gN.flat h2⟩
theorem zZ.toR{I:Nat->Prop}{w:World}{t:Ty}:∀{l:List t.den}{xs:List Value},zZ I w t l xs->gN (zG I w t) l xs
 | [],_,h=>h
 |d::l,_,h=>by
  obtain⟨a,b,e,h1,h2⟩:=h
  exact⟨a,b,e,h1,zZ.toR h2⟩
theorem zZ.mono{I I' : Nat->Prop}{w w' : World}(hI:∀b,I b->I' b) (hw:∀b,I b->w'.heap[b]? = w.heap[b]?) (t:Ty):∀(l:List t.den)(xs:List Value),zZ I w t l xs->zZ I' w' t l xs
 | [],_,h=>h
 |d::l,_,h=>by
  obtain⟨a,b,e,h1,h2⟩:=h
  exact⟨a,b,e,zG.mono hI hw t d a h1,zZ.mono hI hw t l b h2⟩
inductive SV where
 |any
 |int (k:IntKind) (n:Int)
 |bool (b:Bool)
 |str (s:ByteArray)
 |sl (t:Ty) (l:List t.den)
 |adr (t:Ty) (d:t.den)
 |ptr (k off:Nat)
 |own (k:Nat)
 |oel (k s i off:Nat)
 |nils
 |nilp
 |agg (cs:List SV)
 |tup (cs:List SV)
 |fn (f:FuncId) (cs:List SV)
 |yld (l:Nat)
 |arr (t:Ty) (n:Nat) (l:List t.den)
 |big (cs:List SV)
 |osl (t:Ty) (l:List t.den)
 |sub (k s i j:Nat)
 |bsl (k n:Nat)
 |nsl (t:Ty) (l:List t.den) (b:Bool)
 |mp (k:Nat)
instance:Inhabited SV:=⟨.any⟩
def jU:SV->Bool
 |.arr _ _ _=>true
 |_=>false
def qT(cs:List SV):Bool:=cs.all fun c=>!jU c
def zP:List SV->List Value->List Value
 |c::cs,v::vs=>(bif jU c then v.cells.toList else [v])++zP cs vs
 |_,_=>[]
inductive RS where
 |ready
 |busy
 |done (e:Exit)
structure En where
 ρ:Nat->Nat
 sv:Nat->Value
 I:Nat->Prop
 rc:Nat->RS->Obj
def fnVal(f:FuncId)(vs:List Value):Value:=bif Nat.ble 4294967296 f then .func (.func (f - 4294967296)) vs.toArray #[] else .func (.func f) #[] vs.toArray
theorem pG{f:FuncId}(h:Nat.ble 4294967296 f=false) (vs:List Value):fnVal f vs = .func (.func f) #[] vs.toArray:=by unfold fnVal;rw[h];rfl
mutual
def Rep(E:En)(U:Nat->Bool)(w:World):SV->Value->Prop
 |.any,_=>True
 |.int k n,v=>v = .int k n
 |.bool b,v=>v = .bool b
 |.str s,v=>v = .string s
 |.sl t l,v=>zG E.I w (.sl t) l [v]
 |.adr t d,v=>∃b o cs,v = .pointer (some ⟨b,o,none⟩)/\E.I b/\gF w b o cs/\zG E.I w t d cs
 |.ptr k off,v=>U k=true/\v = .pointer (some ⟨E.ρ k,off,none⟩)
 |.own k,v=>U k=true/\v=E.sv k/\∃a n c,v = .slice a n c
 |.oel k s i off,v=>U k=true/\v = .pointer (some ⟨E.ρ k,i*s+off,none⟩)
 |.nils,v=>v = .slice none 0 0
 |.nilp,v=>v = .pointer none
 |.agg cs,v=>∃vs,v = .agg vs.toArray/\zA E U w cs vs
 |.tup cs,v=>∃vs,v = .tuple vs.toArray/\zA E U w cs vs
 |.fn f cs,v=>∃vs,v=fnVal f vs/\zA E U w cs vs
 |.mp k,v=>U k=true/\v = .map (some (E.ρ k))
 |.yld k,v=>U k=true/\v = .func (.yield (E.ρ k)) #[] #[]
 |.arr t n l,v=>∃xs:List Value,v = .agg xs.toArray/\l.length=n/\zZ E.I w t l xs
 |.big cs,v=>∃vs,v = .agg (zP cs vs).toArray/\zA E U w cs vs
 |.osl t l,v=>zG E.I w (.sl t) l [v]/\(l=[]->v = .slice none 0 0)
 |.nsl t l b,v=>zG E.I w (.sl t) l [v]/\(b=true↔∃n c,v = .slice none n c)
 |.bsl k n,v=>U k=true/\v = .slice (some ⟨E.ρ k,0,none⟩) n n
 |.sub k s i j,v=>U k=true/\∃a n c,E.sv k = .slice a n c/\v = .slice (if c=i then a else a.map (·.add (i*s))) (j - i) (c - i)
def zA(E:En)(U:Nat->Bool)(w:World):List SV->List Value->Prop
 | [],vs=>vs=[]
 |c::cs,vs=>∃v r,vs=v::r/\Rep E U w c v/\zA E U w cs r
end
structure En.Le (U U' : Nat->Bool) (E E' : En) (w w' : World):Prop where
 used:∀k,U k=true->U' k=true
 rho:∀k,U k=true->E'.ρ k=E.ρ k
 sv:∀k,U k=true->E'.sv k=E.sv k
 imm:∀b,E.I b->E'.I b
 heap:∀b,E.I b->w'.heap[b]? = w.heap[b]?
 rc:∀k,U k=true->E'.rc k=E.rc k
theorem En.Le.refl(U:Nat->Bool)(E:En)(w:World):En.Le U U E E w w:=⟨fun _ h=>h,fun _ _=>rfl,fun _ _=>rfl,fun _ h=>h,fun _ _=>rfl,fun _ _=>rfl⟩
theorem En.Le.trans{U U' U'' : Nat->Bool}{E E' E'' : En}{w w' w'' : World}(h:En.Le U U' E E' w w') (k:En.Le U' U'' E' E'' w' w''):En.Le U U'' E E'' w w'' :=
 ⟨fun x hx=>k.used x (h.used x hx),fun x hx=>(k.rho x (h.used x hx)).trans (h.rho x hx),fun x hx=>(k.sv x (h.used x hx)).trans (h.sv x hx),fun b hb=>k.imm b (h.imm b hb),fun b hb=>(k.heap b (h.imm b hb)).trans (h.heap b hb),fun x hx=>(k.rc x (h.used x hx)).trans (h.rc x hx)⟩
mutual
theorem Rep.mono{E E' : En}{U U' : Nat->Bool}{w w' : World}(h:En.Le U U' E E' w w'):∀(s:SV)(v:Value),Rep E U w s v->Rep E' U' w' s v
 |.any,_,_=>by unfold Rep;trivial
 |.int _ _,_,hr=>by unfold Rep at *;exact hr
 |.bool _,_,hr=>by unfold Rep at *;exact hr
 |.str _,_,hr=>by unfold Rep at *;exact hr
 |.sl t l,_,hr=>by unfold Rep at *;exact zG.mono h.imm h.heap _ _ _ hr
 |.osl t l,_,hr=>by unfold Rep at *;exact⟨zG.mono h.imm h.heap _ _ _ hr.1,hr.2⟩
 |.sub k s i j,_,hr=>by unfold Rep at *;exact⟨h.used k hr.1,by rw[h.sv k hr.1];exact hr.2⟩
 |.nsl t l b,_,hr=>by unfold Rep at *;exact⟨zG.mono h.imm h.heap _ _ _ hr.1,hr.2⟩
 |.bsl k n,_,hr=>by unfold Rep at *;exact⟨h.used k hr.1,by rw[h.rho k hr.1];exact hr.2⟩
 |.adr t d,_,hr=>by
  unfold Rep at *
  obtain⟨b,o,cs,e,hb,hr,hd⟩:=hr
  exact⟨b,o,cs,e,h.imm b hb,hr.of_heap (h.heap b hb),zG.mono h.imm h.heap _ _ _ hd⟩
 |.ptr k off,_,hr=>by unfold Rep at *;exact⟨h.used k hr.1,by rw[h.rho k hr.1];exact hr.2⟩
 |.own k,_,hr=>by unfold Rep at *;exact⟨h.used k hr.1,by rw[h.sv k hr.1];exact hr.2.1,hr.2.2⟩
 |.oel k s i off,_,hr=>by unfold Rep at *;exact⟨h.used k hr.1,by rw[h.rho k hr.1];exact hr.2⟩
 |.nils,_,hr=>by unfold Rep at *;exact hr
 |.nilp,_,hr=>by unfold Rep at *;exact hr
 |.agg cs,_,hr=>by unfold Rep at *;obtain⟨vs,e,hl⟩:=hr;exact⟨vs,e,zA.mono h cs vs hl⟩
 |.tup cs,_,hr=>by unfold Rep at *;obtain⟨vs,e,hl⟩:=hr;exact⟨vs,e,zA.mono h cs vs hl⟩
 |.fn f cs,_,hr=>by unfold Rep at *;obtain⟨vs,e,hl⟩:=hr;exact⟨vs,e,zA.mono h cs vs hl⟩
 |.yld k,_,hr=>by unfold Rep at *;exact⟨h.used k hr.1,by rw[h.rho k hr.1];exact hr.2⟩
 |.mp k,_,hr=>by unfold Rep at *;exact⟨h.used k hr.1,by rw[h.rho k hr.1];exact hr.2⟩
 |.arr t n l,_,hr=>by unfold Rep at *;obtain⟨xs,e,hn,hf⟩:=hr;exact⟨xs,e,hn,zZ.mono h.imm h.heap _ _ _ hf⟩
 |.big cs,_,hr=>by unfold Rep at *;obtain⟨vs,e,hl⟩:=hr;exact⟨vs,e,zA.mono h cs vs hl⟩
theorem zA.mono{E E' : En}{U U' : Nat->Bool}{w w' : World}(h:En.Le U U' E E' w w'):∀(s:List SV)(v:List Value),zA E U w s v->zA E' U' w' s v
 | [],_,hr=>by unfold zA at *;exact hr
 |c::cs,_,hr=>by
  unfold zA at *
  obtain⟨v,r,e,h1,h2⟩:=hr
  exact⟨v,r,e,Rep.mono h c v h1,zA.mono h cs r h2⟩
end
def Ty.cells:(t:Ty)->t.den->List SV
 |.int k,n=>[.int k n]
 |.bool,b=>[.bool b]
 |.str,s=>[.str s]
 |.unit,_=>[]
 |.pair a b,d=>a.cells d.1++b.cells d.2
 |.sl e,l=>[.sl e l]
 |.arr e _,l=>(show List e.den from l).flatMap e.cells
theorem zA.nil{E:En}{U:Nat->Bool}{w:World}:zA E U w [] []:=by unfold zA;rfl
theorem zA.cons{E:En}{U:Nat->Bool}{w:World}{c:SV}{cs:List SV}{v:Value}{r:List Value}(h:Rep E U w c v) (hs:zA E U w cs r):zA E U w (c::cs) (v::r):=by
 unfold zA;exact⟨v,r,rfl,h,hs⟩
theorem zA.append{E:En}{U:Nat->Bool}{w:World}:∀{cs ds:List SV}{vs us:List Value},zA E U w cs vs->zA E U w ds us->zA E U w (cs++ds) (vs++us)
 | [],_,_,_,h,k=>by unfold zA at h;subst h;exact k
 |c::cs,_,_,_,h,k=>by
  unfold zA at h
  obtain⟨v,r,rfl,h1,h2⟩:=h
  exact zA.cons h1 (zA.append h2 k)
theorem zA.length{E:En}{U:Nat->Bool}{w:World}:∀{cs:List SV}{vs:List Value},zA E U w cs vs->vs.length=cs.length
 | [],_,h=>by unfold zA at h;subst h;rfl
 |c::cs,_,h=>by
  unfold zA at h
  obtain⟨v,r,rfl,h1,h2⟩:=h
  simp[zA.length h2]
theorem zA.get{E:En}{U:Nat->Bool}{w:World}:∀{cs:List SV}{vs:List Value},zA E U w cs vs->∀{i:Nat}{c:SV},cs[i]? = some c->∃v,vs[i]? = some v/\Rep E U w c v
 | [],_,_,i,c,hc=>by simp at hc
 |c::cs,_,h,i,d,hd=>by
  unfold zA at h
  obtain⟨v,r,rfl,h1,h2⟩:=h
  cases i with
  |zero=>simp at hd;subst hd;exact⟨v,rfl,h1⟩
  |succ i=>simpa using zA.get h2 (i:=i) (by simpa using hd)
theorem zA.split{E:En}{U:Nat->Bool}{w:World}:∀{cs ds:List SV}{vs:List Value},zA E U w (cs++ds) vs->∃x y,vs=x++y/\zA E U w cs x/\zA E U w ds y
 | [],_,vs,h=>⟨[],vs,rfl,zA.nil,h⟩
 |c::cs,_,vs,h=>by
  rw[List.cons_append] at h
  unfold zA at h
  obtain⟨v,r,rfl,h1,h2⟩:=h
  obtain⟨x,y,rfl,h3,h4⟩:=zA.split h2
  exact⟨v::x,y,rfl,zA.cons h1 h3,h4⟩
theorem zA.drop{E:En}{U:Nat->Bool}{w:World}{cs:List SV}{vs:List Value}(n:Nat) (h:zA E U w cs vs):zA E U w (cs.drop n) (vs.drop n):=by
 rw[<- List.take_append_drop n cs] at h
 obtain⟨x,y,rfl,h1,h2⟩:=zA.split h
 have hl:=h1.length
 have hlen:(x++y).drop n=y:=by
  by_cases hn:n<=cs.length
  ·rw[List.length_take,Nat.min_eq_left hn] at hl
   rw[<- hl,List.drop_left]
  ·have hy:=h2.length
   rw[List.length_drop] at hy
   have:y=[]:=List.eq_nil_of_length_eq_zero (by omega)
   subst this
   rw[List.drop_eq_nil_of_le]
   simp only[List.append_nil]
   rw[hl,List.length_take];omega
 rw[hlen];exact h2
theorem zA.take{E:En}{U:Nat->Bool}{w:World}{cs:List SV}{vs:List Value}(n:Nat) (h:zA E U w cs vs):zA E U w (cs.take n) (vs.take n):=by
 rw[<- List.take_append_drop n cs] at h
 obtain⟨x,y,rfl,h1,h2⟩:=zA.split h
 have hl:=h1.length
 have hlen:(x++y).take n=x:=by
  by_cases hn:n<=cs.length
  ·rw[List.length_take,Nat.min_eq_left hn] at hl
   rw[<- hl,List.take_left]
  ·have hy:=h2.length
   rw[List.length_drop] at hy
   have:y=[]:=List.eq_nil_of_length_eq_zero (by omega)
   subst this
   rw[List.append_nil,List.take_of_length_le]
   rw[hl,List.length_take];omega
 rw[hlen];exact h1
theorem cells_flat{E:En}{U:Nat->Bool}{w:World}{α:Type}{R:α->List Value->Prop}{f:α->List SV}(h:∀d xs,R d xs->zA E U w (f d) xs):∀(m:List α)(vs:List Value),gN R m vs->zA E U w (m.flatMap f) vs
 | [],_,k=>by rw[show _=_ from k];exact zA.nil
 |d::m,_,k=>by
  obtain⟨a,b,e1,h3,h4⟩:=k
  rw[e1,List.flatMap_cons]
  exact zA.append (h _ _ h3) (cells_flat h m b h4)
theorem zG.cells{E:En}{U:Nat->Bool}{w:World}:∀(t:Ty)(d:t.den)(vs:List Value),zG E.I w t d vs->zA E U w (t.cells d) vs
 |.int _,_,_,h=>by rw[show _=_ from h];exact zA.cons (by unfold Rep;rfl) zA.nil
 |.bool,_,_,h=>by rw[show _=_ from h];exact zA.cons (by unfold Rep;rfl) zA.nil
 |.str,_,_,h=>by rw[show _=_ from h];exact zA.cons (by unfold Rep;rfl) zA.nil
 |.unit,_,_,h=>by rw[show _=_ from h];exact zA.nil
 |.pair a b,d,_,h=>by
  obtain⟨x,y,e,h1,h2⟩:=h
  rw[e];exact zA.append (zG.cells a _ _ h1) (zG.cells b _ _ h2)
 |.sl e,l,vs,h=>by
  have h':=h
  obtain⟨v,ev,_⟩:=h
  subst ev
  exact zA.cons (by unfold Rep;exact h') zA.nil
 |.arr e n,l,vs,h=>cells_flat (fun d xs hd=>zG.cells e d xs hd) _ _ h.2
def Ty.vO:(t:Ty)->List SV->Option (t.den × List SV)
 |.int k,.int j n::r=>if kB j k then some (n,r) else none
 |.bool,.bool b::r=>some (b,r)
 |.str,.str s::r=>some (s,r)
 |.unit,r=>some ((),r)
 |.pair a b,r=>match a.vO r with
  |some (x,r1)=>match b.vO r1 with
   |some (y,r2)=>some ((x,y),r2)
   |none=>none
  |none=>none
 |.sl e,.sl t l::r=>if h:Ty.beq t e=true then some (show List e.den from (Ty.beq_eq h) ▸ l,r) else none
 |.sl e,.nils::r=>some (show List e.den from [],r)
 |_,_=>none
theorem Ty.wH{E:En}{U:Nat->Bool}{w:World}:∀(t:Ty)(cs:List SV)(vs:List Value)(d:t.den)(r:List SV),t.vO cs=some (d,r)->zA E U w cs vs ->
  ∃x y,vs=x++y/\zG E.I w t d x/\zA E U w r y
 |.int k,cs,vs,d,r,h,hr=>by
  match cs,h,hr with
  |.int j n::r',h,hr=>
   simp only[Ty.vO] at h
   split at h<;>try contradiction
   rename_i hk
   have hk':=gY hk
   subst hk'
   cases h
   unfold zA at hr
   obtain⟨v,r2,rfl,h1,h2⟩:=hr
   unfold Rep at h1
   subst h1
   exact⟨[_],r2,rfl,rfl,h2⟩
 |.bool,cs,vs,d,r,h,hr=>by
  match cs,h,hr with
  |.bool b::r',h,hr=>
   cases h
   unfold zA at hr
   obtain⟨v,r2,rfl,h1,h2⟩:=hr
   unfold Rep at h1
   subst h1
   exact⟨[_],r2,rfl,rfl,h2⟩
 |.str,cs,vs,d,r,h,hr=>by
  match cs,h,hr with
  |.str b::r',h,hr=>
   cases h
   unfold zA at hr
   obtain⟨v,r2,rfl,h1,h2⟩:=hr
   unfold Rep at h1
   subst h1
   exact⟨[_],r2,rfl,rfl,h2⟩
 |.unit,cs,vs,d,r,h,hr=>by
  cases h
  exact⟨[],vs,rfl,rfl,hr⟩
 |.pair a b,cs,vs,d,r,h,hr=>by
  simp only[Ty.vO] at h
  split at h<;>try contradiction
  rename_i x r1 h1
  split at h<;>try contradiction
  rename_i y r2 h2
  cases h
  obtain⟨u,v,rfl,hd,hrest⟩:=Ty.wH a _ _ _ _ h1 hr
  obtain⟨u2,v2,rfl,hd2,hrest2⟩:=Ty.wH b _ _ _ _ h2 hrest
  exact⟨u++u2,v2,by simp,⟨u,u2,rfl,hd,hd2⟩,hrest2⟩
 |.sl e,cs,vs,d,r,h,hr=>by
  match cs,h,hr with
  |.sl t l::r',h,hr=>
   simp only[Ty.vO] at h
   split at h<;>try contradiction
   rename_i hb
   have hte:=Ty.beq_eq hb
   subst hte
   cases h
   unfold zA at hr
   obtain⟨v,r2,rfl,h1,h2⟩:=hr
   unfold Rep at h1
   exact⟨[v],r2,rfl,h1,h2⟩
  |.nils::r',h,hr=>
   cases h
   unfold zA at hr
   obtain⟨v,r2,rfl,h1,h2⟩:=hr
   unfold Rep at h1
   subst h1
   exact⟨[_],r2,rfl,⟨_,rfl,none,0,rfl,Nat.le_refl _,.inl rfl⟩,h2⟩
end Go.Sx
namespace Go.Sx
open Go.RowKit
theorem zZ.append{I:Nat->Prop}{w:World}{t:Ty}:∀{l m:List t.den}{xs ys:List Value},zZ I w t l xs->zZ I w t m ys->zZ I w t (l++m) (xs++ys)
 | [],_,_,_,h,k=>by rw[show _=_ from h];exact k
 |d::l,_,_,_,h,k=>by
  obtain⟨a,b,e,h1,h2⟩:=h
  exact⟨a,b++_,by rw[e,List.append_assoc],h1,zZ.append h2 k⟩
theorem zZ.length{I:Nat->Prop}{w:World}{t:Ty}:∀{l:List t.den}{xs:List Value},zZ I w t l xs->xs.length=l.length*t.size
 | [],_,h=>by rw[show _=_ from h];simp
 |d::l,_,h=>by
  obtain⟨a,b,e,h1,h2⟩:=h
  rw[e,List.length_append,zG.length t d a h1,zZ.length h2,List.length_cons,Nat.succ_mul,Nat.add_comm]
theorem zZ.at{I:Nat->Prop}{w:World}{t:Ty}:∀{l:List t.den}{xs:List Value},zZ I w t l xs->∀{i:Nat}{d:t.den},l[i]? = some d ->
  ∃a b c,xs=a++(b++c)/\a.length=i*t.size/\zG I w t d b/\zZ I w t (l.take i) a/\zZ I w t (l.drop (i+1)) c
 | [],_,_,i,d,hd=>by simp at hd
 |x::l,_,h,i,d,hd=>by
  obtain⟨a,b,e,h1,h2⟩:=h
  cases i with
  |zero=>
   simp only[List.getElem?_cons_zero,Option.some.injEq] at hd
   subst hd
   exact⟨[],a,b,by rw[e];rfl,by simp,h1,rfl,by simpa using h2⟩
  |succ i=>
   obtain⟨a',b',c',e',hl,hr,ht,hc⟩:=zZ.at h2 (i:=i) (d:=d) (by simpa using hd)
   exact⟨a++a',b',c',by rw[e,e',List.append_assoc],by rw[List.length_append,hl,zG.length t x a h1,Nat.succ_mul,Nat.add_comm],hr,⟨a,a',rfl,h1,ht⟩,hc⟩
theorem zG.one{I:Nat->Prop}{w:World}:∀(t:Ty)(d:t.den)(vs:List Value),zG I w t d vs->∀v∈vs,v.oneCell'=true
 |.int _,_,_,h=>by rw[show _=_ from h];simp[Value.oneCell']
 |.bool,_,_,h=>by rw[show _=_ from h];simp[Value.oneCell']
 |.str,_,_,h=>by rw[show _=_ from h];simp[Value.oneCell']
 |.unit,_,_,h=>by rw[show _=_ from h];simp
 |.pair a b,d,_,h=>by
  obtain⟨x,y,e,h1,h2⟩:=h
  rw[e]
  intro v hv
  rcases List.mem_append.1 hv with hv |hv
  ·exact zG.one a _ _ h1 v hv
  ·exact zG.one b _ _ h2 v hv
 |.sl e,l,_,h=>by
  obtain⟨v,ev,p,cap,e1,_⟩:=h
  rw[ev,e1];simp[Value.oneCell']
 |.arr e n,l,_,h=>by
  have h2:=h.2
  generalize (show List e.den from l)=m at h2
  rename_i xs
  clear h
  induction m generalizing xs with
  |nil=>rw[show _=_ from h2];simp
  |cons d m ih=>
   obtain⟨a,b,e1,h3,h4⟩:=h2
   rw[e1]
   intro v hv
   rcases List.mem_append.1 hv with hv |hv
   ·exact zG.one e d a h3 v hv
   ·exact ih b h4 v hv
theorem zZ.one{I:Nat->Prop}{w:World}{t:Ty}:∀{l:List t.den}{xs:List Value},zZ I w t l xs->∀v∈xs,v.oneCell'=true
 | [],_,h=>by rw[show _=_ from h];simp
 |d::l,_,h=>by
  obtain⟨a,b,e,h1,h2⟩:=h
  rw[e]
  intro v hv
  rcases List.mem_append.1 hv with hv |hv
  ·exact zG.one t d a h1 v hv
  ·exact zZ.one h2 v hv
theorem vH:∀{cs:List SV}{vs:List Value},qT cs=true->vs.length=cs.length->zP cs vs=vs
 | [],[],_,_=>rfl
 | [],_::_,_,h=>by simp at h
 |_::_,[],_,h=>by simp at h
 |c::cs,v::vs,h,hl=>by
  simp only[qT,List.all_cons,Bool.and_eq_true,Bool.not_eq_true'] at h
  rw[zP,h.1,cond_false,vH (cs:=cs) (vs:=vs) h.2 (by simpa using hl)]
  rfl
theorem wI:∀{cs ds:List SV}{vs:List Value},cs.map jU=ds.map jU->zP cs vs=zP ds vs
 | [],[],_,_=>rfl
 | [],_::_,_,h=>by cases h
 |_::_,[],_,h=>by cases h
 |c::cs,d::ds,[],_=>rfl
 |c::cs,d::ds,v::vs,h=>by
  simp only[List.map_cons,List.cons.injEq] at h
  rw[zP,zP,h.1,wI (cs:=cs) (ds:=ds) h.2]
theorem vX:∀{cs ds:List SV}{vs us:List Value},vs.length=cs.length->zP (cs++ds) (vs++us)=zP cs vs++zP ds us
 | [],_,[],_,_=>rfl
 | [],_,_::_,_,h=>by simp at h
 |_::_,_,[],_,h=>by simp at h
 |c::cs,ds,v::vs,us,h=>by
  rw[List.cons_append,List.cons_append,zP,zP,vX (cs:=cs) (ds:=ds) (vs:=vs) (us:=us) (by simpa using h),List.append_assoc]
abbrev mkd:Nat:=1099511627776
def _root_.Go.World.ownR(w:World)(e:TypeId)(size:Nat)(v:Value)(n:Nat)(xs:List Value):Prop :=
 xs.length=n*size/\((v = .slice none 0 0/\n=0) \/
  ∃g cap cur ty mk,v = .slice (some ⟨g,0,none⟩) n cap/\w.heap[g]? = some (.cells cur ty mk)/\n<=cap/\cap<=maxLen/\cur.size=cap*size/\cur.toList.take (n*size)=xs/\((ty=e/\mk=(0,0))\/(mkd<=e/\mk=(cur.size,cur.size+1))))
theorem ownR_of{w:World}{e:TypeId}{size:Nat}{v:Value}{n:Nat}{xs:List Value}(h:w.ownsRow 0 e size v n xs):w.ownR e size v n xs:=by
 obtain⟨h1,h2⟩:=h
 refine⟨h1,?_⟩
 rcases h2 with h2 |⟨g,cap,cur,hv,_,hg,a,b,c,d⟩
 ·exact .inl h2
 ·exact .inr ⟨g,cap,cur,e,(0,0),hv,hg,a,b,c,d,.inl ⟨rfl,rfl⟩⟩
theorem _root_.Go.World.ownR.plain{w:World}{e:TypeId}{size:Nat}{v:Value}{n:Nat}{xs:List Value}(h:w.ownR e size v n xs) (he:Nat.blt e mkd=true):w.ownsRow 0 e size v n xs:=by
 obtain⟨h1,h2⟩:=h
 refine⟨h1,?_⟩
 rcases h2 with h2 |⟨g,cap,cur,ty,mk,hv,hg,a,b,c,d,hm⟩
 ·exact .inl h2
 ·rcases hm with⟨rfl,rfl⟩ |⟨hm,_⟩
  ·exact .inr ⟨g,cap,cur,hv,Nat.zero_le _,hg,a,b,c,d⟩
  ·exact absurd hm (Nat.not_le.2 (Nat.blt_eq.mp he))
theorem _root_.Go.World.ownR.lt{w:World}{e:TypeId}{size:Nat}{v:Value}{n:Nat}{xs:List Value}(h:w.ownR e size v n xs):∀k,v.ownBlock=some k->k<w.heap.size:=by
 intro k hk
 rcases h.2 with⟨rfl,_⟩ |⟨g,cap,cur,ty,mk,rfl,hg,_⟩
 ·cases hk
 ·cases hk
  exact (Array.getElem?_eq_some_iff.1 hg).1
theorem _root_.Go.World.ownR.cells{w:World}{e:TypeId}{size:Nat}{v:Value}{n:Nat}{xs:List Value}(h:w.ownR e size v n xs) {g:Nat}(hg:v.ownBlock=some g):∀j u,xs[j]? = some u->w.cell? ⟨g,j,none⟩=some u/\w.frozen? ⟨g,j,none⟩=false:=by
 intro j u hu
 rcases h.2 with⟨rfl,_⟩ |⟨g',cap,cur,ty,mk,rfl,hgg,_,_,_,htake,hmk⟩
 ·cases hg
 ·cases hg
  rw[<- htake,List.getElem?_take] at hu
  split at hu
  ·refine⟨?_,?_⟩
   ·simp only[World.cell?,hgg,Option.isSome_none,Bool.false_eq_true,if_false]
    simpa using hu
   ·have hj:j<cur.size:=by
     have:=(List.getElem?_eq_some_iff.1 hu).1
     simpa using this
    rcases hmk with⟨_,rfl⟩ |⟨_,rfl⟩
    ·simp[World.frozen?,hgg]
    ·have:decide (cur.size<=j)=false:=decide_eq_false (by omega)
     simp[World.frozen?,hgg,this]
  ·cases hu
theorem ownR_nil(w:World)(e:TypeId)(size:Nat):w.ownR e size (.slice none 0 0) 0 []:=⟨by simp,.inl ⟨rfl,rfl⟩⟩
inductive Ob where
 |box (cells:List SV)
 |row (e:TypeId) (t:Ty) (l:List t.den)
 |frz (t:Ty) (l:List t.den)
 |clip (t:Ty) (l:List t.den)
 |rnd (p:RS)
 |mp (es:List (Int × FuncId))
 |hole (e:TypeId) (vs:List Value) (i x:Nat)
 |nw (x:Nat) (t:Ty) (l:List t.den)
def Ob.live(E:En)(k:Nat):Ob->Prop
 |.box _=>True
 |.row .. =>E.sv k ≠ .slice none 0 0
 |.frz .. =>False
 |.clip .. =>False
 |.rnd _=>True
 |.mp _=>True
 |.hole .. =>True
 |.nw .. =>False
def pJ(E:En)(U:Nat->Bool)(w:World)(k:Nat):Ob->Prop
 |.box cells=>∃vs ty,w.heap[E.ρ k]? = some (.cells (List.toArray (zP cells vs)) ty (0,0))/\zA E U w cells vs
 |.row e t l=>∃xs,w.ownR e t.size (E.sv k) l.length xs/\zZ E.I w t l xs/\(E.sv k = .slice none 0 0\/∃cap,E.sv k = .slice (some ⟨E.ρ k,0,none⟩) l.length cap)
 |.frz t l=>wS E.I w t.size (zG E.I w t) l (E.sv k)
 |.clip t l=>wS E.I w t.size (zG E.I w t) l (E.sv k)/\∃p,E.sv k = .slice p l.length l.length
 |.rnd p=>w.heap[E.ρ k]? = some (E.rc k p)/\∃r,E.rc k p = .loop r
 |.mp es=>∃ents clock,w.heap[E.ρ k]? = some (.map ents clock)/\ents.toList.map (fun e=>(e.key,e.val))=es.map fun p=>(Value.int .i64 p.1,Value.func (.func p.2) #[] #[])
 |.hole e vs i x=>i<vs.length/\(U x=true/\∃a n c,E.sv x = .slice a n c)/\∃cap cur,E.sv k = .slice (some ⟨E.ρ k,0,none⟩) vs.length cap/\w.heap[E.ρ k]? = some (.cells cur e (0,0))/\vs.length<=cap/\cap<=maxLen/\cur.size=cap/\cur.toList.take vs.length=vs.set i (E.sv x)
 |.nw x t l=>U x=true/\wS (fun b=>E.I b/\E.ρ x<=b) w t.size (zG (fun b=>E.I b/\E.ρ x<=b) w t) l (E.sv k)
structure Frm (w0:World) (M:Nat->Prop) (w:World):Prop where
 os:w.os=w0.os
 tape:w.tape=w0.tape
 output:w.output=w0.output
 size:w0.heap.size<=w.heap.size
 drawn:w0.drawn<=w.drawn
 block:∀b,b<w0.heap.size->¬ M b->w.heap[b]? = w0.heap[b]?
theorem Frm.refl(w:World)(M:Nat->Prop):Frm w M w:=⟨rfl,rfl,rfl,Nat.le_refl _,Nat.le_refl _,fun _ _ _=>rfl⟩
theorem Frm.below{w0 w:World}(h:Frm w0 (fun _=>False) w):Below w0.heap.size w0 w:=⟨h.os,h.tape,h.output,h.size,fun b hb=>h.block b hb (fun x=>x)⟩
abbrev Hp:=Nat->Option Ob
def jF(E:En)(H:Hp)(k:Nat):Prop:=∃o,H k=some o/\o.live E k
structure HSat (w0:World) (M:Nat->Prop) (E:En) (U:Nat->Bool) (H:Hp) (w:World):Prop where
 ob:∀k o,H k=some o->U k=true/\pJ E U w k o
 inj:∀j k,jF E H j->jF E H k->E.ρ j=E.ρ k->j=k
 imm:∀k,jF E H k->¬ E.I (E.ρ k)
 lt:∀b,E.I b->b<w.heap.size
 mine:∀k,jF E H k->M (E.ρ k)\/w0.heap.size<=E.ρ k
 frame:Frm w0 M w
theorem pJ.lt{E:En}{U:Nat->Bool}{w:World}{k:Nat}{o:Ob}(h:pJ E U w k o) (hl:o.live E k):E.ρ k<w.heap.size:=by
 cases o with
 |box cells=>
  obtain⟨vs,ty,hh,_⟩:=h
  exact (Array.getElem?_eq_some_iff.1 hh).1
 |row e t l=>
  obtain⟨xs,ho,_,hv⟩:=h
  rcases hv with hv |⟨cap,hv⟩
  ·exact absurd hv hl
  ·exact World.ownR.lt ho (E.ρ k) (by rw[hv];rfl)
 |frz t l=>exact hl.elim
 |clip t l=>exact hl.elim
 |nw x t l=>exact hl.elim
 |rnd p=>exact (Array.getElem?_eq_some_iff.1 h.1).1
 |mp es=>
  obtain⟨ents,clock,h1,_⟩:=h
  exact (Array.getElem?_eq_some_iff.1 h1).1
 |hole e vs i x=>
  obtain⟨_,_,cap,cur,_,h1,_⟩:=h
  exact (Array.getElem?_eq_some_iff.1 h1).1
theorem pJ.kind{E:En}{U:Nat->Bool}{w:World}{k:Nat}{o:Ob}(h:pJ E U w k o) (hl:o.live E k):w.heap[E.ρ k]? ≠ some (.deferred (some [])):=by
 intro hd
 cases o with
 |box cells=>
  obtain⟨vs,ty,hh,_⟩:=h
  rw[hh] at hd;cases hd
 |row e t l=>
  obtain⟨xs,ho,_,hv⟩:=h
  rcases hv with hv |⟨cap,hv⟩
  ·exact absurd hv hl
  ·rcases ho.2 with⟨h0,_⟩ |⟨g,cap',cur,ty,mk,h0,hg,_⟩
   ·exact absurd h0 hl
   ·rw[hv] at h0
    injection h0 with h1 h2 h3
    injection h1 with h1
    injection h1 with h1
    rw[h1,hg] at hd;cases hd
 |frz t l=>exact hl.elim
 |clip t l=>exact hl.elim
 |nw x t l=>exact hl.elim
 |rnd p=>
  obtain⟨h1,r,h2⟩:=h
  rw[h1,h2] at hd;cases hd
 |mp es=>
  obtain⟨ents,clock,h1,_⟩:=h
  rw[h1] at hd;cases hd
 |hole e vs i x=>
  obtain⟨_,_,cap,cur,_,h1,_⟩:=h
  rw[h1] at hd;cases hd
theorem HSat.jV{w0:World}{M:Nat->Prop}{E:En}{U:Nat->Bool}{H:Hp}{w:World}(h:HSat w0 M E U H w) {k:Nat}(hk:jF E H k):E.ρ k<w.heap.size:=by
 obtain⟨o,ho,hl⟩:=hk
 exact (h.ob k o ho).2.lt hl
def apU(U:Nat->Bool)(news:List Nat):Nat->Bool:=fun k=>U k||news.any (Nat.beq k)
def apH:Hp->List (Nat × Option Ob)->Hp
 |H,[]=>H
 |H,(j,o)::r=>fun k=>bif Nat.beq k j then o else apH H r k
structure Eff where
 need:Option Prop:=none
 res:SV
 upd:List (Nat × Option Ob):=[]
 news:List Nat:=[]
def ndP:Option Prop->Prop
 |none=>True
 |some p=>p
def Eff.nd(e:Eff):Prop:=ndP e.need
def yA(P:Program)(s:Sem Next)(w:World)(K:Value->World->Prop):Prop :=
 match s.run P w with
 |.ok (.value v) w' =>K v w'
 |.ok .skip w' =>K undef w'
 |.ok (.enter f args) w' =>Calls P f args w' fun
   |.returned v,w'' =>K v w''
   |_,_=>False
 |_=>False
theorem yA.mono{P:Program}{s:Sem Next}{w:World}{K K' : Value->World->Prop}(h:yA P s w K) (hk:∀v w',K v w'->K' v w'):yA P s w K':=by
 unfold yA at *
 split at h
 ·exact hk _ _ h
 ·exact hk _ _ h
 ·refine Calls.mono h ?_
  intro e w' he
  cases e with
  |returned v=>exact hk _ _ he
  |panicked c=>exact he
  |outgrown=>exact he
 ·exact h.elim
theorem yA.value{P:Program}{s:Sem Next}{w w' : World}{v:Value}{K:Value->World->Prop}(h:s.run P w = .ok (.value v) w') (hk:K v w'):yA P s w K:=by
 unfold yA;rw[h];exact hk
theorem yA.skip{P:Program}{s:Sem Next}{w w' : World}{K:Value->World->Prop}(h:s.run P w = .ok .skip w') (hk:K undef w'):yA P s w K:=by
 unfold yA;rw[h];exact hk
theorem yA.enter{P:Program}{s:Sem Next}{w w' : World}{f:FuncId}{args:Array Value}{K:Value->World->Prop}(h:s.run P w = .ok (.enter f args) w')
  (hk:Calls P f args w' (fun e w'' =>∃v,e = .returned v/\K v w'')):yA P s w K:=by
 unfold yA;rw[h]
 refine hk.mono ?_
 rintro e w'' ⟨v,rfl,hv⟩
 exact hv
abbrev FR(r:Option Nat):Fence:={ Fence.wide with round:=r }
theorem callsIn_FR{r:Option Nat}{n:Nat}{P:Program}{f:FuncId}{args:Array Value}{w:World}{R:Ending->World->Prop}(h:Calls P f args w R):CallsIn (FR r) n P f args w R :=
 (callsIn_wide (n:=n)).2 h
theorem pN{P:Program}{r:Option Nat}{o:Oper}{a:Act}{w:World}{K:Act->World->Prop}{Q:Exit->Act->World->Prop}(hd:∀c,o.op ≠ .defer c)
  (h:yA P (execOp a.eval o) w (fun v w' =>K (a.put o.dst v) w')):o.wpIn (FR r) 0 P a w K Q:=by
 refine⟨fun _ _=>trivial,?_⟩
 rw[Oper.semAt_eq _ _ _ hd]
 unfold yA at h
 split at h
 ·rename_i hr;rw[hr];exact h
 ·rename_i hr;rw[hr];exact h
 ·rename_i f args w' hr
  rw[hr,Oper.uponIn_enter]
  refine⟨fun hx=>by simp[Fence.wide] at hx,callsIn_FR (h.mono ?_)⟩
  intro e w'' he
  cases e with
  |returned v=>exact he
  |panicked c=>exact he.elim
  |outgrown=>exact he.elim
 ·exact h.elim
def Mof(E:En)(H:Hp)(b:Nat):Prop:=∃k,jF E H k/\E.ρ k=b
def vZ(E E' : En)(H:Hp)(w:World):Prop:=∀b,E'.I b->E.I b\/Mof E H b\/w.heap.size<=b
theorem vZ.refl{E E' : En}(h:E'.I=E.I) (H:Hp) (w:World):vZ E E' H w:=fun b hb=>.inl (by rw[<- h];exact hb)
def zS(P:Program)(o:Oper)(args:List SV)(H:Hp)(eff:Eff):Prop :=
 ∀(w0:World)(M:Nat->Prop)(E:En)(U:Nat->Bool)(w:World)(ρv:Operand->Value),
  HSat w0 M E U H w->zA E U w args (o.op.operands.toList.map ρv)->(∀k∈eff.news,U k=false)->eff.nd ->
  yA P (execOp ρv o) w fun v w' =>∃E',En.Le U (apU U eff.news) E E' w w'/\HSat w0 M E' (apU U eff.news) (apH H eff.upd) w'/\vZ E E' H w/\Rep E' (apU U eff.news) w' eff.res v
theorem vC(U:Nat->Bool):apU U []=U:=by funext k;simp[apU]
theorem apH_nil(H:Hp):apH H []=H:=rfl
theorem zS.same{P:Program}{o:Oper}{args:List SV}{H:Hp}{eff:Eff}(hn:eff.news=[]) (hu:eff.upd=[])
  (h:∀(w0:World)(M:Nat->Prop)(E:En)(U:Nat->Bool)(w:World)(ρv:Operand->Value),HSat w0 M E U H w->zA E U w args (o.op.operands.toList.map ρv)->eff.nd ->
   ∃v,(execOp ρv o).run P w = .ok (.value v) w/\Rep E U w eff.res v):zS P o args H eff:=by
 intro w0 M E U w ρv hs hr _ hneed
 obtain⟨v,h1,h2⟩:=h w0 M E U w ρv hs hr hneed
 rw[hn,hu,vC,apH_nil]
 exact yA.value h1 ⟨E,En.Le.refl U E w,hs,vZ.refl rfl H w,h2⟩
end Go.Sx
namespace Go.Sx
open Go.RowKit
def xT(P:Program)(t:TypeId):Option Nat:=(P.info? t).map (·.size)
def agOf(P:Program)(t:TypeId):Option Bool :=
 match P.underlying t with
 |some (.struct _) |some (.array _ _)=>some true
 |some _=>some false
 |none=>none
def mkVal(ag:Bool)(c:List SV):Option SV :=
 match ag,c with
 |true,c=>some (.agg c)
 |false,[x]=>some x
 |false,_=>none
theorem run_isAgg{P:Program}{t:TypeId}{ag:Bool}(h:agOf P t=some ag) (w:World):(isAgg t).run P w = .ok ag w:=by
 unfold agOf at h
 cases hu:P.underlying t with
 |none=>simp[hu] at h
 |some d=>
  simp only[hu] at h
  have hr:=run_underlying hu w
  cases d<;>simp at h<;>subst h<;>simp[isAgg,hr]
theorem vE{P:Program}{t:TypeId}{n:Nat}(h:xT P t=some n) (w:World):(sizeOf t).run P w = .ok n w:=by
 unfold xT at h
 cases hu:P.info? t with
 |none=>simp[hu] at h
 |some i=>simp[hu] at h;subst h;simp[sizeOf,typeInfo,hu]
theorem y_(b o n:Nat):(⟨b,o,none⟩:Addr).add n=⟨b,o+n,none⟩:=by
 unfold Addr.add;split<;>simp_all
theorem run_loadVar_at{P:Program}{t:TypeId}{ag:Bool}{w:World}{b o:Nat}{vs:List Value}(ha:agOf P t=some ag) (hs:xT P t=some vs.length) (hr:gF w b o vs) (h1:ag=false->vs.length=1) :
  (loadVar t ⟨b,o,none⟩).run P w = .ok (if ag then .agg vs.toArray else vs.headD undef) w:=by
 cases ag with
 |true=>
  have hl:=run_loadCells_list (P:=P) w ⟨b,o,none⟩ vs (fun j v hv=>by rw[y_];exact (hr j v hv).1)
  simp[loadVar,run_isAgg ha,vE hs,hl]
 |false=>
  match vs,h1 rfl with
  | [v],_=>
   have:=(hr 0 v rfl).1
   simp only[Nat.add_zero] at this
   simp[loadVar,run_isAgg ha,this]
theorem rep_mkVal{E:En}{U:Nat->Bool}{w:World}{ag:Bool}{c:List SV}{s:SV}{vs:List Value}(h:mkVal ag c=some s) (hr:zA E U w c vs) :
  Rep E U w s (if ag then .agg vs.toArray else vs.headD undef)/\(ag=false->vs.length=1):=by
 unfold mkVal at h
 split at h
 ·cases h
  exact⟨by unfold Rep;exact⟨vs,rfl,hr⟩,fun hx=>by cases hx⟩
 ·cases h
  unfold zA at hr
  obtain⟨v,r,rfl,h1,h2⟩:=hr
  unfold zA at h2
  subst h2
  exact⟨h1,fun _=>rfl⟩
 ·cases h
def pQ:Nat->List SV->Option (List SV × List SV)
 |0,cs=>some ([],cs)
 |_+1,[]=>none
 |k+1,.arr t n l::cs=>if n*t.size<=k+1 then match pQ (k+1 - n*t.size) cs with
  |some (a,b)=>some (.arr t n l::a,b)
  |none=>none
  else none
 |k+1,c::cs=>match pQ k cs with
  |some (a,b)=>some (c::a,b)
  |none=>none
theorem gT{E:En}{U:Nat->Bool}{w:World}:∀{off:Nat}{cells pre r:List SV}{vs:List Value},pQ off cells=some (pre,r)->zA E U w cells vs ->
  cells=pre++r/\∃a b,vs=a++b/\zA E U w pre a/\zA E U w r b/\(zP pre a).length=off
 |0,cells,pre,r,vs,h,hr=>by
  rw[pQ] at h
  cases h
  exact⟨rfl,[],vs,rfl,zA.nil,hr,rfl⟩
 |k+1,[],pre,r,vs,h,hr=>by rw[pQ] at h;cases h
 |k+1,c::cs,pre,r,vs,h,hr=>by
  unfold zA at hr
  obtain⟨v,q,rfl,h1,h2⟩:=hr
  by_cases ha:jU c=true
  ·cases c<;>simp[jU] at ha
   rename_i t n l
   rw[pQ] at h
   split at h
   ·rename_i hle
    split at h
    ·rename_i a b hs
     cases h
     obtain⟨e,x,y,e2,h3,h4,h5⟩:=gT hs h2
     refine⟨by rw[e];rfl,v::x,y,by rw[e2];rfl,zA.cons h1 h3,h4,?_⟩
     have hv:=h1
     unfold Rep at hv
     obtain⟨xs,ev,hn,hf⟩:=hv
     have hxl:=hf.length
     rw[zP,List.length_append,h5,ev]
     simp only[jU,cond_true,Value.cells,List.toList_toArray]
     rw[hxl,hn]
     omega
    ·cases h
   ·cases h
  ·have ha' : jU c=false:=by simpa using ha
   have h' : pQ (k+1) (c::cs)=match pQ k cs with
    |some (a,b)=>some (c::a,b)
    |none=>none:=by
    cases c<;>first |rfl |simp[jU] at ha'
   rw[h'] at h
   split at h
   ·rename_i a b hs
    cases h
    obtain⟨e,x,y,e2,h3,h4,h5⟩:=gT hs h2
    refine⟨by rw[e];rfl,v::x,y,by rw[e2];rfl,zA.cons h1 h3,h4,?_⟩
    rw[zP,ha',cond_false,List.length_append,h5]
    simp;omega
   ·cases h
theorem flatV_take:∀{n:Nat}{r:List SV}{us:List Value},qT (r.take n)=true->us.length=r.length->(zP r us).take n=us.take n
 |0,_,_,_,_=>by simp
 |n+1,[],[],_,_=>by simp[zP]
 |n+1,[],_::_,_,h=>by simp at h
 |n+1,_::_,[],_,h=>by simp at h
 |n+1,c::r,v::us,h,hl=>by
  simp only[qT,List.take_succ_cons,List.all_cons,Bool.and_eq_true,Bool.not_eq_true'] at h
  rw[zP,h.1,cond_false,List.singleton_append,List.take_succ_cons,List.take_succ_cons,flatV_take (n:=n) (r:=r) (us:=us) h.2 (by simpa using hl)]
def rdBox(cells:List SV)(off n:Nat):Option (List SV) :=
 bif qT cells then some ((cells.drop off).take n) else match pQ off cells with
 |some (_,r)=>bif qT (r.take n) then some (r.take n) else none
 |none=>none
theorem rdBox_ok{E:En}{U:Nat->Bool}{w:World}{cells c:List SV}{vs:List Value}{off n:Nat}(h:rdBox cells off n=some c) (hr:zA E U w cells vs):zA E U w c (((zP cells vs).drop off).take n):=by
 unfold rdBox at h
 cases hn:qT cells
 ·rw[hn,cond_false] at h
  split at h
  ·rename_i pre r hs
   cases hp:qT (r.take n)
   ·rw[hp] at h;cases h
   ·rw[hp,cond_true] at h
    cases h
    obtain⟨e,a,b,e2,h1,h2,h3⟩:=gT hs hr
    rw[e,e2,vX h1.length,<- h3,List.drop_left,flatV_take hp h2.length]
    exact h2.take n
  ·cases h
 ·rw[hn,cond_true] at h
  cases h
  rw[vH hn hr.length]
  exact (hr.drop off).take n
def rdAt(H:Hp)(n:Nat):SV->Option (Option Prop × List SV)
 |.ptr k off=>match H k with
  |some (.box cells)=>match rdBox cells off n with
   |some c=>some (none,c)
   |none=>none
  |_=>none
 |.adr t d=>if Nat.beq t.size n then some (none,t.cells d) else none
 |.oel k s i off=>match H k with
  |some (.row _ t l)=>if Nat.beq s t.size&&Nat.ble (off+n) s then some (some (i<l.length),((t.cells (l.getD i t.gB)).drop off).take n) else none
  |some (.box cells)=>match pQ off cells with
   |some (_,.arr t _ l::_)=>if Nat.beq s t.size&&Nat.beq n s then some (some (i<l.length),t.cells (l.getD i t.gB)) else none
   |_=>none
  |some (.hole _ _ j y)=>if Nat.beq s 1&&Nat.beq off 0&&Nat.beq n 1 then some (some (i=j),[.own y]) else none
  |_=>none
 |_=>none
theorem heap_row{w:World}{b:Nat}{vs:List Value}{ty:TypeId}(h:w.heap[b]? = some (.cells vs.toArray ty (0,0))) (o n:Nat):gF w b o ((vs.drop o).take n):=by
 intro j v hv
 refine⟨?_,by simp[World.frozen?,h]⟩
 simp only[World.cell?,h,Option.isSome_none,Bool.false_eq_true,if_false]
 rw[List.getElem?_take] at hv
 split at hv
 ·rw[List.getElem?_drop] at hv
  simpa using hv
 ·cases hv
theorem rdAt_ok{w0:World}{M:Nat->Prop}{E:En}{U:Nat->Bool}{H:Hp}{w:World}(hs:HSat w0 M E U H w) {x:SV}{v:Value}(hx:Rep E U w x v) {n:Nat}{p:Option Prop}{c:List SV}
  (h:rdAt H n x=some (p,c)) (hp:ndP p):∃b o vs,v = .pointer (some ⟨b,o,none⟩)/\gF w b o vs/\zA E U w c vs:=by
 cases x with
 |ptr k off=>
  simp only[rdAt] at h
  split at h
  ·rename_i cells hk
   split at h
   ·rename_i c' hc'
    cases h
    obtain⟨_,vs,ty,hh,hr⟩:=hs.ob k _ hk
    unfold Rep at hx
    exact⟨E.ρ k,off,((zP cells vs).drop off).take n,hx.2,heap_row hh off n,rdBox_ok hc' hr⟩
   ·cases h
  ·cases h
 |adr t d=>
  simp only[rdAt] at h
  split at h
  ·cases h
   unfold Rep at hx
   obtain⟨b,o,cs,e,_,hr,hd⟩:=hx
   exact⟨b,o,cs,e,hr,zG.cells t d cs hd⟩
  ·cases h
 |oel k s i off=>
  simp only[rdAt] at h
  split at h
  ·rename_i e t l hk
   split at h
   ·rename_i hc
    simp only[Bool.and_eq_true,Nat.ble_eq] at hc
    cases h
    obtain⟨_,xs,ho,hf,hsv⟩:=hs.ob k _ hk
    unfold Rep at hx
    have hsv' : ∃cap,E.sv k = .slice (some ⟨E.ρ k,0,none⟩) l.length cap:=by
     rcases hsv with h0 |h0
     ·obtain⟨h1,h2⟩:=ho
      rcases h2 with⟨_,h2⟩ |⟨g,cap,cur,ty,mk,h2,_⟩
      ·have:i<l.length:=hp
       omega
      ·rw[h0] at h2;cases h2
     ·exact h0
    obtain⟨cap,hsv'⟩:=hsv'
    rw[hsv'] at ho
    have hi:l[i]? = some (l.getD i t.gB):=by
     have:i<l.length:=hp
     simp[List.getD,List.getElem?_eq_getElem this]
    obtain⟨a,b,cc,exs,ha,hd,_,_⟩:=zZ.at hf hi
    have hcells:=World.ownR.cells ho (g:=E.ρ k) rfl
    refine⟨E.ρ k,i*s+off,(b.drop off).take n,hx.2,?_,((zG.cells t _ b hd).drop off).take n⟩
    intro j u hu
    rw[List.getElem?_take] at hu
    split at hu
    ·rw[List.getElem?_drop] at hu
     have hu2:xs[a.length+(off+j)]? = some u:=by
      rw[exs,List.getElem?_append_right (by omega),Nat.add_sub_cancel_left,List.getElem?_append_left]
      ·exact hu
      ·exact (List.getElem?_eq_some_iff.1 hu).1
     have:=hcells _ u hu2
     rw[ha] at this
     rw[nbT hc.1]
     simpa[Nat.add_assoc] using this
    ·cases hu
   ·cases h
  ·rename_i cells hk
   split at h
   ·rename_i pre t nn l r hs'
    split at h
    ·rename_i hc
     simp only[Bool.and_eq_true] at hc
     have e1:=nbT hc.1
     have e2:=nbT hc.2
     cases h
     obtain⟨_,vs,ty,hh,hr⟩:=hs.ob k _ hk
     unfold Rep at hx
     obtain⟨e,a,b,ev,h1,h2,h3⟩:=gT hs' hr
     unfold zA at h2
     obtain⟨u,q,rfl,h4,h5⟩:=h2
     unfold Rep at h4
     obtain⟨xs,eu,hn,hf⟩:=h4
     have hi:l[i]? = some (l.getD i t.gB):=by
      have:i<l.length:=hp
      simp[List.getD,List.getElem?_eq_getElem this]
     obtain⟨xa,xb,xc,exs,ha,hd,_,_⟩:=zZ.at hf hi
     have hrow:=heap_row hh (i*s+off) n
     have hxb:=zG.length t _ _ hd
     have hfl:zP cells vs=zP pre a++(xa++(xb++(xc++zP r q))):=by
      rw[e,ev,vX h1.length,zP,eu]
      simp[jU,Value.cells,exs,List.append_assoc]
     have hcut:((zP cells vs).drop (i*s+off)).take n=xb:=by
      rw[hfl,show i*s+off=(zP pre a).length+xa.length by rw[h3,ha,e1];omega,<- List.drop_drop,List.drop_left,List.drop_left,show n=xb.length by omega,List.take_left]
     rw[hcut] at hrow
     exact⟨E.ρ k,i*s+off,xb,hx.2,hrow,zG.cells t _ xb hd⟩
    ·cases h
   ·cases h
  ·rename_i e' vs j y hk
   split at h
   ·rename_i hc
    simp only[Bool.and_eq_true] at hc
    have e1:=nbT hc.1.1
    have e2:=nbT hc.1.2
    have e3:=nbT hc.2
    subst e1 e2 e3
    cases h
    have hij:i=j:=hp
    subst hij
    obtain⟨_,hi,⟨hy1,hy2⟩,cap,cur,hsv,hh,hcap,hm,hsz,htk⟩:=hs.ob k _ hk
    unfold Rep at hx
    refine⟨E.ρ k,i*1+0,[E.sv y],hx.2,?_,zA.cons (by unfold Rep;exact⟨hy1,rfl,hy2⟩) zA.nil⟩
    intro m u hu
    cases m with
    |succ m=>simp at hu
    |zero=>
     simp only[List.getElem?_cons_zero,Option.some.injEq] at hu
     subst hu
     have h1:(cur.toList.take vs.length)[i]? = some (E.sv y):=by
      rw[htk,List.getElem?_set_self hi]
     rw[List.getElem?_take,if_pos hi,Array.getElem?_toList] at h1
     refine⟨?_,by simp[World.frozen?,hh]⟩
     simp only[World.cell?,hh,Option.isSome_none,Bool.false_eq_true,if_false]
     rw[show i*1+0+0=i by omega]
     exact h1
   ·cases h
  ·cases h
 |_=>cases h
def semLoad(P:Program)(H:Hp)(t:TypeId)(x:SV):Option Eff :=
 match xT P t,agOf P t with
 |some n,some ag=>match rdAt H n x with
  |some (p,c)=>if Nat.beq c.length n then match mkVal ag c with
   |some s=>some { need:=p,res:=s }
   |none=>none
   else none
  |none=>none
 |_,_=>none
theorem pT{E:En}{U:Nat->Bool}{w:World}{x:SV}{vs:List Value}(h:zA E U w [x] vs):∃v,vs=[v]/\Rep E U w x v:=by
 unfold zA at h
 obtain⟨v,r,rfl,h1,h2⟩:=h
 unfold zA at h2
 subst h2
 exact⟨v,rfl,h1⟩
theorem vD{E:En}{U:Nat->Bool}{w:World}{x y:SV}{vs:List Value}(h:zA E U w [x,y] vs):∃v u,vs=[v,u]/\Rep E U w x v/\Rep E U w y u:=by
 unfold zA at h
 obtain⟨v,r,rfl,h1,h2⟩:=h
 obtain⟨u,rfl,h3⟩:=pT h2
 exact⟨v,u,rfl,h1,h3⟩
theorem repL3{E:En}{U:Nat->Bool}{w:World}{x y z:SV}{vs:List Value}(h:zA E U w [x,y,z] vs):∃v u t,vs=[v,u,t]/\Rep E U w x v/\Rep E U w y u/\Rep E U w z t:=by
 unfold zA at h
 obtain⟨v,r,rfl,h1,h2⟩:=h
 obtain⟨u,t,rfl,h3,h4⟩:=vD h2
 exact⟨v,u,t,rfl,h1,h3,h4⟩
theorem semLoad_ok{P:Program}{H:Hp}{t:TypeId}{x:SV}{eff:Eff}{o:Oper}{ad:Operand}(ho:o.op = .load t ad) (h:semLoad P H t x=some eff):zS P o [x] H eff:=by
 unfold semLoad at h
 split at h
 ·rename_i n ag hn hag
  split at h
  ·rename_i p c hrd
   split at h
   ·rename_i hlen
    split at h
    ·rename_i s hmk
     cases h
     refine zS.same rfl rfl fun w0 M E U w ρv hs hr hp=>?_
     simp only[ho,Op.operands] at hr
     obtain⟨v,hv,hx⟩:=pT hr
     simp only[List.map_cons,List.map_nil,List.cons.injEq,and_true] at hv
     obtain⟨b,off,vs,e,hrow,hc⟩:=rdAt_ok hs hx hrd hp
     obtain⟨hres,h1⟩:=rep_mkVal hmk hc
     have hl:vs.length=n:=by rw[hc.length];exact nbT hlen
     have hrun:=run_loadVar_at (P:=P) hag (by rw[hn,hl]) hrow h1
     refine⟨_,?_,hres⟩
     unfold execOp
     simp only[ho]
     rw[hv,e]
     simp[Instr.loadAt,Instr.sureAddr,hrun]
    ·cases h
   ·cases h
  ·cases h
 ·cases h
def shrI(k:IntKind)(a b:Int):Int:=a.fdiv (2 ^ min b.toNat k.bits)
def shlI(k:IntKind)(a b:Int):Int:=k.wrap (a*2 ^ min b.toNat k.bits)
def semInt(op:BinOp)(k:IntKind)(a b:Int):Option Eff :=
 match op with
 |.add=>some { res:=.int k (k.wrap (a+b)) }
 |.sub=>some { res:=.int k (k.wrap (a - b)) }
 |.mul=>some { res:=.int k (k.wrap (a*b)) }
 |.quo=>some { need:=some (b≠0),res:=.int k (k.wrap (a.tdiv b)) }
 |.rem=>some { need:=some (b≠0),res:=.int k (a.tmod b) }
 |.and=>some { res:=.int k (bits .and k a b) }
 |.or=>some { res:=.int k (bits .or k a b) }
 |.xor=>some { res:=.int k (bits .xor k a b) }
 |.andNot=>some { res:=.int k (bits .andNot k a b) }
 |.eql=>some { res:=.bool (a==b) }
 |.neq=>some { res:=.bool (a != b) }
 |.lss=>some { res:=.bool (decide (a<b)) }
 |.leq=>some { res:=.bool (decide (a<=b)) }
 |.gtr=>some { res:=.bool (decide (a>b)) }
 |.geq=>some { res:=.bool (decide (a>=b)) }
 |_=>none
def partSV(P:Program)(t:TypeId)(cs:List SV)(off:Nat):Option SV :=
 match xT P t,agOf P t with
 |some n,some ag=>if Nat.ble (off+n) cs.length then mkVal ag ((cs.drop off).take n) else none
 |_,_=>none
def eqFs(P:Program)(ev:TypeId->SV->SV->Option Bool)(xs ys:List SV):List Field->Option Bool
 | []=>some true
 |f::fs=>if f.name = "_" then none else
  match partSV P f.type xs f.offset,partSV P f.type ys f.offset with
  |some a,some b=>match ev f.type a b,eqFs P ev xs ys fs with
   |some r,some s=>some (r&&s)
   |_,_=>none
  |_,_=>none
def eqVal(P:Program):Nat->TypeId->SV->SV->Option Bool
 |0,_,_,_=>none
 |d+1,t,x,y=>match P.underlying t,x,y with
  |some (.int _),.int k a,.int j b=>if kB k j then some (a==b) else none
  |some .bool,.bool a,.bool b=>some (a==b)
  |some .string,.str a,.str b=>some (a.toList==b.toList)
  |some (.struct fs),.agg xs,.agg ys=>if P.stoodInHeld t then none else eqFs P (eqVal P d) xs ys fs.toList
  |some (.slice _),.nils,.nils=>some true
  |some (.pointer _),.nilp,.nilp=>some true
  |some (.pointer _),.ptr _ _,.nilp=>some false
  |some (.pointer _),.adr _ _,.nilp=>some false
  |some (.pointer _),.oel _ _ _ _,.nilp=>some false
  |_,_,_=>none
theorem run_part{P:Program}{E:En}{U:Nat->Bool}{w:World}{t:TypeId}{cs:List SV}{off:Nat}{s:SV}{vs:List Value}(h:partSV P t cs off=some s) (hr:zA E U w cs vs) :
  ∃v,(part t vs.toArray off).run P w = .ok v w/\Rep E U w s v:=by
 unfold partSV at h
 split at h
 ·rename_i n ag hn hag
  split at h
  ·rename_i hlen
   have hlen':=Nat.le_of_ble_eq_true hlen
   obtain⟨h1,h2⟩:=rep_mkVal h ((hr.drop off).take n)
   refine⟨_,?_,h1⟩
   have hvl:=hr.length
   cases ag with
   |true=>
    simp[part,run_isAgg hag,vE hn]
   |false=>
    have hone:=h2 rfl
    rw[List.length_take,List.length_drop] at hone
    have hn1:n=1\/n=0\/1<n:=by omega
    have hlt:off<vs.length:=by omega
    have:((vs.drop off).take n).headD undef=vs[off]:=by
     rw[List.drop_eq_getElem_cons hlt]
     cases n with
     |zero=>simp at hone
     |succ n=>rfl
    simp[part,run_isAgg hag,hlt]
    simpa using this.symm
  ·cases h
 ·cases h
theorem eqVal_ok{P:Program}{E:En}{U:Nat->Bool}{w:World}:∀(d:Nat)(t:TypeId)(x y:SV)(r:Bool),eqVal P d t x y=some r->∀(u v:Value),Rep E U w x u->Rep E U w y v->∀D,d<=D ->
  (Op.equalIn D t u v).run P w = .ok r w
 |0,_,_,_,_,h,_,_,_,_,_,_=>by cases h
 |d+1,t,x,y,r,h,u,v,hu,hv,D,hD=>by
  obtain⟨D',rfl⟩:∃D',D=D'+1:=⟨D - 1,by omega⟩
  simp only[eqVal] at h
  split at h
  ·rename_i ht
   split at h
   ·rename_i hk
    have hk':=gY hk
    subst hk'
    cases h
    unfold Rep at hu hv
    subst hu;subst hv
    exact run_equalIn_int w D' t _ _ _ _ ht
   ·cases h
  ·rename_i ht
   cases h
   unfold Rep at hu hv
   subst hu;subst hv
   exact run_equalIn_bool w D' t _ _ ht
  ·rename_i ht
   cases h
   unfold Rep at hu hv
   subst hu;subst hv
   exact run_equalIn_string w D' t _ _ ht
  ·rename_i fs xs ys ht
   split at h
   ·cases h
   ·rename_i hst
    unfold Rep at hu hv
    obtain⟨us,rfl,hus⟩:=hu
    obtain⟨vs,rfl,hvs⟩:=hv
    have hfo:P.fieldsOf t=fs:=by simp[Program.fieldsOf,ht]
    rw[run_equalIn_struct w D' t us.toArray vs.toArray (by rw[hfo];exact ht) (by simpa using hst),hfo]
    generalize fs.toList=l at h
    clear ht hfo hst
    induction l generalizing r with
    |nil=>simp only[eqFs,Option.some.injEq] at h;subst h;simp[Op.eqFields]
    |cons f l ih=>
     simp only[eqFs] at h
     split at h
     ·cases h
     ·rename_i hname
      split at h
      ·rename_i a b ha hb
       split at h
       ·rename_i r1 r2 h1 h2
        cases h
        obtain⟨va,hva,hra⟩:=run_part ha hus
        obtain⟨vb,hvb,hrb⟩:=run_part hb hvs
        have he:=eqVal_ok d f.type a b r1 h1 va vb hra hrb D' (by omega)
        have ih':=ih r2 h2
        simp only[Op.eqFields,ne_eq,hname,not_false_eq_true,if_true,Sem.run_bind,hva,hvb,Result.andThen_ok,he]
        cases r1
        ·simp
        ·simpa using ih'
       ·cases h
      ·cases h
  ·rename_i ht
   cases h
   unfold Rep at hu hv
   subst hu;subst hv
   simp[Op.equalIn,run_underlying ht]
  ·rename_i ht
   cases h
   unfold Rep at hu hv
   subst hu;subst hv
   simp[Op.equalIn,run_underlying ht]
  ·rename_i ht
   cases h
   unfold Rep at hu hv
   rw[hu.2];subst hv
   simp[Op.equalIn,run_underlying ht]
  ·rename_i ht
   cases h
   unfold Rep at hu hv
   obtain⟨b,o,cs,rfl,_⟩:=hu
   subst hv
   simp[Op.equalIn,run_underlying ht]
  ·rename_i ht
   cases h
   unfold Rep at hu hv
   rw[hu.2];subst hv
   simp[Op.equalIn,run_underlying ht]
  ·cases h
def SV.flatish:SV->Bool
 |.bool _ |.nils |.nilp |.ptr _ _ |.adr _ _ |.oel _ _ _ _=>true
 |_=>false
def semBin(P:Program)(op:BinOp)(t:TypeId)(x y:SV):Option Eff :=
 match x,y with
 |.int k a,.int j b=>match op with
  |.shl=>some { need:=some (0<=b),res:=.int k (shlI k a b) }
  |.shr=>some { need:=some (0<=b),res:=.int k (shrI k a b) }
  |_=>if kB k j then semInt op k a b else none
 |.agg xs,.agg ys=>if P.eqGuardType P.depth t then none else match op with
  |.eql=>(eqVal P 12 t (.agg xs) (.agg ys)).map fun r=>{ res:=.bool r }
  |.neq=>(eqVal P 12 t (.agg xs) (.agg ys)).map fun r=>{ res:=.bool (!r) }
  |_=>none
 |x,y=>if x.flatish then match op with
  |.eql=>(eqVal P 12 t x y).map fun r=>{ res:=.bool r }
  |.neq=>(eqVal P 12 t x y).map fun r=>{ res:=.bool (!r) }
  |_=>none
  else none
end Go.Sx
namespace Go.Sx
open Go.RowKit
theorem qA{P:Program}{o:Oper}{op:BinOp}{t t' : TypeId}{x y:Operand}(ho:o.op = .binOp op t x y t') (ρv:Operand->Value) (w:World) {v:Value}
  (hg:(eqGuard op t x y (ρv x) (ρv y)).run P w = .ok () w) (hb:(binOp op t (ρv x) (ρv y)).run P w = .ok v w):(execOp ρv o).run P w = .ok (.value v) w:=by
 unfold execOp
 simp only[ho]
 simp[Sem.run_bind,hg,hb]
theorem semInt_ok{P:Program}{H:Hp}{op:BinOp}{k:IntKind}{a b:Int}{eff:Eff}{t t' : TypeId}{x y:Operand}{o:Oper}(ho:o.op = .binOp op t x y t') (h:semInt op k a b=some eff):zS P o [.int k a,.int k b] H eff:=by
 have key:∀(w:World),eff.nd->∃v,(binOp op t (.int k a) (.int k b)).run P w = .ok v w/\(∀E U,Rep E U w eff.res v):=by
  intro w hneed
  cases op<;>simp only[semInt] at h<;>first
   |(cases h;done)
   |(cases h;refine⟨_,?_,fun E U=>by unfold Rep;rfl⟩;first |(simp[binOp,Op.intArith];done) |(simp[binOp,Op.intCmp];done) |(simp[binOp,Op.intDiv,show b≠0 from hneed];done) |(simp only[binOp,ne_eq,not_true_eq_false,if_false];first |(rw[intBits_and];rfl) |(rw[intBits_or];rfl) |(rw[intBits_xor];rfl) |(rw[intBits_andNot];rfl)))
 have hu:eff.upd=[]/\eff.news=[]:=by
  cases op<;>simp only[semInt] at h<;>first |(cases h;done) |(cases h;exact⟨rfl,rfl⟩)
 refine zS.same hu.2 hu.1 fun w0 M E U w ρv hs hr hp=>?_
 simp only[ho,Op.operands] at hr
 obtain⟨v,u,hv,hx,hy⟩:=vD hr
 simp only[List.map_cons,List.map_nil,List.cons.injEq,and_true] at hv
 unfold Rep at hx hy
 obtain⟨r,hrun,hrep⟩:=key w hp
 refine⟨r,qA ho ρv w ?_ ?_,hrep E U⟩
 ·rw[hv.1,hx,eqGuard_at_int];rfl
 ·rw[hv.1,hv.2,hx,hy];exact hrun
theorem shift_run{P:Program}{w:World}{k j:IntKind}{a b:Int}(hb:0<=b) :
  (Op.shift .shl k a j b).run P w = .ok (.int k (shlI k a b)) w/\(Op.shift .shr k a j b).run P w = .ok (.int k (shrI k a b)) w:=by
 have h:¬ b<0:=by omega
 constructor<;>simp[Op.shift,h,shlI,shrI]
theorem flat_guard{E:En}{U:Nat->Bool}{w:World}{x:SV}{u:Value}(hf:x.flatish=true) (hr:Rep E U w x u) (op:BinOp) (t:TypeId) (a b:Operand) (v:Value):eqGuard op t a b u v=pure ():=by
 cases x<;>simp[SV.flatish] at hf<;>unfold Rep at hr
 case bool=>rw[hr];apply eqGuard_at_bool
 case nils=>rw[hr];apply eqGuard_at_slice
 case nilp=>rw[hr];apply eqGuard_at_pointer
 case ptr=>rw[hr.2];apply eqGuard_at_pointer
 case adr=>obtain⟨_,_,_,rfl,_⟩:=hr;apply eqGuard_at_pointer
 case oel=>rw[hr.2];apply eqGuard_at_pointer
theorem fE{P:Program}{w:World}{t:TypeId}{u v:Value}{r:Bool}(h:(Op.equalIn 10000 t u v).run P w = .ok r w) :
  (do pure (.bool (<- Op.equal t u v)):Sem Value).run P w = .ok (.bool r) w/\(do pure (.bool (!(<- Op.equal t u v))):Sem Value).run P w = .ok (.bool (!r)) w:=by
 constructor<;>simp[Op.equal,Op.maxDepth,h]
theorem binOp_flat{E:En}{U:Nat->Bool}{w:World}{x:SV}{u v:Value}(hf:x.flatish=true) (hx:Rep E U w x u) (t:TypeId) :
  binOp .eql t u v=(do pure (.bool (<- Op.equal t u v)))/\binOp .neq t u v=(do pure (.bool (!(<- Op.equal t u v)))):=by
 cases x<;>simp[SV.flatish] at hf<;>unfold Rep at hx
 case bool=>rw[hx];exact⟨rfl,rfl⟩
 case nils=>rw[hx];exact⟨rfl,rfl⟩
 case nilp=>rw[hx];exact⟨rfl,rfl⟩
 case ptr=>rw[hx.2];exact⟨rfl,rfl⟩
 case adr=>obtain⟨_,_,_,rfl,_⟩:=hx;exact⟨rfl,rfl⟩
 case oel=>rw[hx.2];exact⟨rfl,rfl⟩
theorem semBin_ok{P:Program}{H:Hp}{op:BinOp}{t t' : TypeId}{a b:SV}{eff:Eff}{x y:Operand}{o:Oper}(ho:o.op = .binOp op t x y t') (h:semBin P op t a b=some eff):zS P o [a,b] H eff:=by
 unfold semBin at h
 split at h
 ·rename_i k m j n
  split at h
  ·cases h
   refine zS.same rfl rfl fun w0 M E U w ρv hs hr hp=>?_
   simp only[ho,Op.operands] at hr
   obtain⟨v,u,hv,hx,hy⟩:=vD hr
   simp only[List.map_cons,List.map_nil,List.cons.injEq,and_true] at hv
   unfold Rep at hx hy
   refine⟨_,qA ho ρv w ?_ ?_,by unfold Rep;rfl⟩
   ·rfl
   ·rw[hv.1,hv.2,hx,hy];exact (shift_run (j:=j) (show 0<=n from hp)).1
  ·cases h
   refine zS.same rfl rfl fun w0 M E U w ρv hs hr hp=>?_
   simp only[ho,Op.operands] at hr
   obtain⟨v,u,hv,hx,hy⟩:=vD hr
   simp only[List.map_cons,List.map_nil,List.cons.injEq,and_true] at hv
   unfold Rep at hx hy
   refine⟨_,qA ho ρv w ?_ ?_,by unfold Rep;rfl⟩
   ·rfl
   ·rw[hv.1,hv.2,hx,hy];exact (shift_run (j:=j) (show 0<=n from hp)).2
  ·split at h
   ·rename_i hk
    have hk':=gY hk
    subst hk'
    exact semInt_ok ho h
   ·cases h
 ·rename_i xs ys
  split at h
  ·cases h
  ·rename_i hgt
   have key:∀(r:Bool)(e:Eff),eqVal P 12 t (.agg xs) (.agg ys)=some r->e.upd=[]->e.news=[]->((op = .eql/\e.res = .bool r)\/(op = .neq/\e.res = .bool (!r)))->zS P o [.agg xs,.agg ys] H e:=by
    intro r e hr0 hu hn hop
    refine zS.same hn hu fun w0 M E U w ρv hs hr hp=>?_
    simp only[ho,Op.operands] at hr
    obtain⟨v,u,hv,hx,hy⟩:=vD hr
    simp only[List.map_cons,List.map_nil,List.cons.injEq,and_true] at hv
    have heq:=eqVal_ok 12 t _ _ r hr0 v u hx hy 10000 (by omega)
    have hx':=hx
    have hy':=hy
    unfold Rep at hx' hy'
    obtain⟨us,rfl,_⟩:=hx'
    obtain⟨vs,rfl,_⟩:=hy'
    have hg:(eqGuard op t x y (ρv x) (ρv y)).run P w = .ok () w:=by
     rw[hv.1,hv.2];exact run_eqGuard_agg w op t x y _ _ (by simpa using hgt)
    rcases hop with⟨rfl,he⟩ |⟨rfl,he⟩
    ·refine⟨.bool r,qA ho ρv w hg ?_,by rw[he];unfold Rep;rfl⟩
     rw[hv.1,hv.2,run_eql_struct,heq];rfl
    ·refine⟨.bool (!r),qA ho ρv w hg ?_,by rw[he];unfold Rep;rfl⟩
     rw[hv.1,hv.2,run_neq_struct,heq];rfl
   split at h
   ·simp only[Option.map_eq_some_iff] at h
    obtain⟨r,hr,rfl⟩:=h
    exact key r _ hr rfl rfl (.inl ⟨rfl,rfl⟩)
   ·simp only[Option.map_eq_some_iff] at h
    obtain⟨r,hr,rfl⟩:=h
    exact key r _ hr rfl rfl (.inr ⟨rfl,rfl⟩)
   ·cases h
 ·split at h
  ·rename_i hf
   have key:∀(r:Bool)(e:Eff),eqVal P 12 t a b=some r->e.upd=[]->e.news=[]->((op = .eql/\e.res = .bool r)\/(op = .neq/\e.res = .bool (!r)))->zS P o [a,b] H e:=by
    intro r e hr0 hu hn hop
    refine zS.same hn hu fun w0 M E U w ρv hs hr hp=>?_
    simp only[ho,Op.operands] at hr
    obtain⟨v,u,hv,hx,hy⟩:=vD hr
    simp only[List.map_cons,List.map_nil,List.cons.injEq,and_true] at hv
    have heq:=eqVal_ok 12 t _ _ r hr0 v u hx hy 10000 (by omega)
    have hg:(eqGuard op t x y (ρv x) (ρv y)).run P w = .ok () w:=by
     rw[hv.1,flat_guard hf hx];rfl
    have hb:=binOp_flat (v:=u) hf hx t
    rcases hop with⟨rfl,he⟩ |⟨rfl,he⟩
    ·refine⟨.bool r,qA ho ρv w hg ?_,by rw[he];unfold Rep;rfl⟩
     rw[hv.1,hv.2,hb.1];exact (fE heq).1
    ·refine⟨.bool (!r),qA ho ρv w hg ?_,by rw[he];unfold Rep;rfl⟩
     rw[hv.1,hv.2,hb.2];exact (fE heq).2
   split at h
   ·simp only[Option.map_eq_some_iff] at h
    obtain⟨r,hr,rfl⟩:=h
    exact key r _ hr rfl rfl (.inl ⟨rfl,rfl⟩)
   ·simp only[Option.map_eq_some_iff] at h
    obtain⟨r,hr,rfl⟩:=h
    exact key r _ hr rfl rfl (.inr ⟨rfl,rfl⟩)
   ·cases h
  ·cases h
def semMove(x:SV):Option Eff:=some { res:=x }
theorem semMove_ok{P:Program}{H:Hp}{o:Oper}{x:Operand}{s:SV}{eff:Eff}(ho:o.op = .move x\/o.op = .assign x) (h:semMove s=some eff):zS P o [s] H eff:=by
 cases h
 refine zS.same rfl rfl fun w0 M E U w ρv hs hr hp=>?_
 have hr' : zA E U w [s] [ρv x]:=by
  rcases ho with ho |ho<;>· simp only[ho,Op.operands] at hr;exact hr
 obtain⟨v,hv,hx⟩:=pT hr'
 simp only[List.cons.injEq,and_true] at hv
 refine⟨v,?_,hx⟩
 unfold execOp
 rcases ho with ho |ho<;>· simp only[ho,hv];rfl
def semPick(c a b:SV):Option Eff :=
 match c with
 |.bool t=>match a,b with
  |.bool x,.bool y=>some { res:=.bool (bif t then x else y) }
  |a,b=>some { res:=bif t then a else b }
 |_=>none
theorem semPick_ok{P:Program}{H:Hp}{o:Oper}{x y z:Operand}{c a b:SV}{eff:Eff}(ho:o.op = .pick x y z) (h:semPick c a b=some eff):zS P o [c,a,b] H eff:=by
 unfold semPick at h
 split at h
 ·rename_i t
  have hu:eff.upd=[]/\eff.news=[]:=by split at h<;>cases h<;>exact⟨rfl,rfl⟩
  refine zS.same hu.2 hu.1 fun w0 M E U w ρv hs hr hp=>?_
  simp only[ho,Op.operands] at hr
  obtain⟨v1,v2,v3,hv,h1,h2,h3⟩:=repL3 hr
  simp only[List.map_cons,List.map_nil,List.cons.injEq,and_true] at hv
  unfold Rep at h1
  refine⟨if t then v2 else v3,?_,?_⟩
  ·unfold execOp
   simp only[ho,hv.1,hv.2.1,hv.2.2,h1]
   cases t<;>simp[asBool]
  ·split at h<;>cases h
   ·unfold Rep at h2 h3
    subst h2;subst h3
    cases t<;>unfold Rep<;>rfl
   ·cases t
    ·exact h3
    ·exact h2
 ·cases h
def semUn(op:UnOp)(x:SV):Option Eff :=
 match op,x with
 |.neg,.int k n=>some { res:=.int k (k.wrap (0 - n)) }
 |.not,.bool b=>some { res:=.bool (!b) }
 |.xor,.int k n=>some { res:=.int k (bits .xor k (if k.signed then -1 else k.max) n) }
 |_,_=>none
theorem semUn_ok{P:Program}{H:Hp}{o:Oper}{op:UnOp}{t:TypeId}{x:Operand}{s:SV}{eff:Eff}(ho:o.op = .unOp op t x) (h:semUn op s=some eff):zS P o [s] H eff:=by
 unfold semUn at h
 split at h<;>first |(cases h;done) |skip
 all_goals
  cases h
  refine zS.same rfl rfl fun w0 M E U w ρv hs hr hp=>?_
  simp only[ho,Op.operands] at hr
  obtain⟨v,hv,hx⟩:=pT hr
  simp only[List.map_cons,List.map_nil,List.cons.injEq,and_true] at hv
  unfold Rep at hx
  refine⟨_,?_,by unfold Rep;rfl⟩
  unfold execOp
  simp only[ho,hv,hx]
  first
   |(simp[Op.unary,Op.intArith];done)
   |(simp only[Op.unary];rw[intBits_xor];rfl)
def semConv(P:Program)(src dst:TypeId)(x:SV):Option Eff :=
 match P.underlying src,P.underlying dst,x with
 |some (.int _),some (.int k),.int _ n=>some { res:=.int k (k.wrap n) }
 |some .string,some .string,.str s=>some { res:=.str s }
 |_,_,_=>none
theorem semConv_ok{P:Program}{H:Hp}{o:Oper}{src dst:TypeId}{x:Operand}{s:SV}{eff:Eff}(ho:o.op = .convert src dst x) (h:semConv P src dst s=some eff):zS P o [s] H eff:=by
 unfold semConv at h
 split at h<;>first |(cases h;done) |skip
 all_goals
  rename_i h1 h2
  cases h
  refine zS.same rfl rfl fun w0 M E U w ρv hs hr hp=>?_
  simp only[ho,Op.operands] at hr
  obtain⟨v,hv,hx⟩:=pT hr
  simp only[List.map_cons,List.map_nil,List.cons.injEq,and_true] at hv
  unfold Rep at hx
  refine⟨_,?_,by unfold Rep;rfl⟩
  unfold execOp
  simp only[ho,hv,hx]
  simp[convert,run_underlying h1,run_underlying h2,Conv.intToInt]
def semExtract(x:SV)(i:Nat):Option Eff :=
 match x with
 |.tup cs=>match cs[i]? with
  |some s=>some { res:=s }
  |none=>none
 |_=>none
theorem semExtract_ok{P:Program}{H:Hp}{o:Oper}{x:Operand}{i:Nat}{s:SV}{eff:Eff}(ho:o.op = .extract x i) (h:semExtract s i=some eff):zS P o [s] H eff:=by
 unfold semExtract at h
 split at h
 ·rename_i cs
  split at h
  ·rename_i t ht
   cases h
   refine zS.same rfl rfl fun w0 M E U w ρv hs hr hp=>?_
   simp only[ho,Op.operands] at hr
   obtain⟨v,hv,hx⟩:=pT hr
   simp only[List.map_cons,List.map_nil,List.cons.injEq,and_true] at hv
   unfold Rep at hx
   obtain⟨vs,e,hl⟩:=hx
   obtain⟨u,hu,hru⟩:=hl.get ht
   refine⟨u,?_,hru⟩
   unfold execOp
   simp only[ho,hv,e]
   simp[Instr.extract,hu]
  ·cases h
 ·cases h
def semNil(x:SV):Option Eff :=
 match x with
 |.ptr k off=>some { res:=.ptr k off }
 |.adr t d=>some { res:=.adr t d }
 |.oel k s i off=>some { res:=.oel k s i off }
 |_=>none
theorem semNil_ok{P:Program}{H:Hp}{o:Oper}{x:Operand}{s:SV}{eff:Eff}(ho:o.op = .nilCheck x) (h:semNil s=some eff):zS P o [s] H eff:=by
 unfold semNil at h
 split at h<;>first |(cases h;done) |skip
 all_goals
  cases h
  refine zS.same rfl rfl fun w0 M E U w ρv hs hr hp=>?_
  simp only[ho,Op.operands] at hr
  obtain⟨v,hv,hx⟩:=pT hr
  simp only[List.map_cons,List.map_nil,List.cons.injEq,and_true] at hv
  have hx':=hx
  unfold Rep at hx'
  refine⟨v,?_,hx⟩
  unfold execOp
  simp only[ho,hv]
  first
   |(rw[hx'.2];rfl)
   |(obtain⟨b,off,cs,rfl,_⟩:=hx';rfl)
def semFunc(f:Fn)(first captured:Nat)(args:List SV):Option Eff :=
 match f,first with
 |.func g,0=>if Nat.beq args.length captured && !Nat.ble 4294967296 g then some { res:=.fn g args } else none
 |.func g,n+1=>if Nat.beq captured 0&&Nat.beq args.length (n+1) then some { res:=.fn (4294967296+g) args } else none
 |_,_=>none
theorem semFunc_ok{P:Program}{H:Hp}{o:Oper}{f:Fn}{first captured:Array Operand}{args:List SV}{eff:Eff}(ho:o.op = .makeFunc f first captured) (h:semFunc f first.size captured.size args=some eff):zS P o args H eff:=by
 unfold semFunc at h
 split at h
 ·rename_i g hf
  split at h
  ·cases h
   have hfe:first = #[]:=Array.eq_empty_of_size_eq_zero hf
   subst hfe
   refine zS.same rfl rfl fun w0 M E U w ρv hs hr hp=>?_
   simp only[ho,Op.operands,Array.empty_append] at hr
   rename_i hb
   simp only[Bool.and_eq_true,Bool.not_eq_true'] at hb
   refine⟨.func (.func g) #[] (captured.toList.map ρv).toArray,?_,by unfold Rep;exact⟨_,(pG hb.2 _).symm,hr⟩⟩
   unfold execOp
   simp only[ho]
   simp[Instr.makeFunc]
   exact Array.ext' (by simp)
  ·cases h
 ·rename_i g n hf
  split at h
  ·rename_i hb
   simp only[Bool.and_eq_true] at hb
   cases h
   have hce:captured = #[]:=Array.eq_empty_of_size_eq_zero (nbT hb.1)
   subst hce
   refine zS.same rfl rfl fun w0 M E U w ρv hs hr hp=>?_
   simp only[ho,Op.operands,Array.append_empty] at hr
   refine⟨.func (.func g) (first.toList.map ρv).toArray #[],?_,by
    unfold Rep
    refine⟨_,?_,hr⟩
    unfold fnVal
    rw[show Nat.ble 4294967296 (4294967296+g)=true from Nat.ble_eq_true_of_le (Nat.le_add_right _ _),cond_true,Nat.add_sub_cancel_left]⟩
   unfold execOp
   simp only[ho]
   simp[Instr.makeFunc]
   exact Array.ext' (by simp)
  ·cases h
 ·cases h
end Go.Sx
namespace Go.Sx
open Go.RowKit
theorem apH1(H:Hp)(id:Nat)(o:Option Ob)(k:Nat):apH H [(id,o)] k=if k=id then o else H k:=by
 show (bif Nat.beq k id then o else H k)=_
 by_cases h:k=id
 ·subst h;simp[Nat.beq_refl]
 ·have:Nat.beq k id=false:=by
   cases hb:Nat.beq k id
   ·rfl
   ·exact absurd (nbT hb) h
  simp[this,h]
theorem gD(U:Nat->Bool)(id k:Nat):apU U [id] k=(U k||decide (k=id)):=by
 show (U k||(Nat.beq k id||false))=_
 by_cases h:k=id
 ·subst h;simp[Nat.beq_refl]
 ·have:Nat.beq k id=false:=by
   cases hb:Nat.beq k id
   ·rfl
   ·exact absurd (nbT hb) h
  simp[this,h]
theorem ownR_heap{w w' : World}{e:TypeId}{size n:Nat}{v:Value}{xs:List Value}(h:w.ownR e size v n xs) (hh:∀b,v.ownBlock=some b->w'.heap[b]? = w.heap[b]?) :
  w'.ownR e size v n xs:=by
 obtain⟨h1,h2⟩:=h
 refine⟨h1,?_⟩
 rcases h2 with h2 |⟨g,cap,cur,ty,mk,hv,hb,r⟩
 ·exact .inl h2
 ·exact .inr ⟨g,cap,cur,ty,mk,hv,by rw[hh g (by rw[hv];rfl)];exact hb,r⟩
theorem pJ.mono{E E' : En}{U U' : Nat->Bool}{w w' : World}{k:Nat}{o:Ob}(h:En.Le U U' E E' w w') (hU:U k=true) (hh:o.live E k->w'.heap[E.ρ k]? = w.heap[E.ρ k]?) (hr:pJ E U w k o):pJ E' U' w' k o:=by
 cases o with
 |box cells=>
  obtain⟨vs,ty,hc,hl⟩:=hr
  exact⟨vs,ty,by rw[h.rho k hU,hh trivial];exact hc,zA.mono h _ _ hl⟩
 |row e t l=>
  obtain⟨xs,ho,hf,hv⟩:=hr
  refine⟨xs,?_,zZ.mono h.imm h.heap t l xs hf,by rw[h.rho k hU,h.sv k hU];exact hv⟩
  rw[h.sv k hU]
  refine ownR_heap ho fun b hb=>?_
  rcases hv with hv |⟨cap,hv⟩
  ·rw[hv] at hb;cases hb
  ·rw[hv] at hb
   cases hb
   exact hh (by show E.sv k≠_;rw[hv];simp)
 |frz t l=>
  show wS _ _ _ _ _ _
  rw[h.sv k hU]
  obtain⟨p,cap,e,hc,hh'⟩:=hr
  refine⟨p,cap,e,hc,?_⟩
  rcases hh' with hh' |⟨b,o,hp,hb,hi⟩
  ·exact .inl hh'
  ·refine .inr ⟨b,o,hp,h.imm b hb,fun i d hd=>?_⟩
   obtain⟨cs,hr1,hr2⟩:=hi i d hd
   exact⟨cs,hr1.of_heap (h.heap b hb),zG.mono h.imm h.heap _ _ _ hr2⟩
 |clip t l=>
  show wS _ _ _ _ _ _/\_
  rw[h.sv k hU]
  obtain⟨⟨p,cap,e,hc,hh'⟩,hx⟩:=hr
  refine⟨⟨p,cap,e,hc,?_⟩,hx⟩
  rcases hh' with hh' |⟨b,o,hp,hb,hi⟩
  ·exact .inl hh'
  ·refine .inr ⟨b,o,hp,h.imm b hb,fun i d hd=>?_⟩
   obtain⟨cs,hr1,hr2⟩:=hi i d hd
   exact⟨cs,hr1.of_heap (h.heap b hb),zG.mono h.imm h.heap _ _ _ hr2⟩
 |nw x t l=>
  obtain⟨hx,p,cap,e,hc,hh'⟩:=hr
  have hI:∀b,(E.I b/\E.ρ x<=b)->(E'.I b/\E'.ρ x<=b):=fun b hb=>⟨h.imm b hb.1,by rw[h.rho x hx];exact hb.2⟩
  have hH:∀b,(E.I b/\E.ρ x<=b)->w'.heap[b]? = w.heap[b]?:=fun b hb=>h.heap b hb.1
  refine⟨h.used x hx,p,cap,by rw[h.sv k hU];exact e,hc,?_⟩
  rcases hh' with hh' |⟨b,o,hp,hb,hi⟩
  ·exact .inl hh'
  ·refine .inr ⟨b,o,hp,hI b hb,fun i d hd=>?_⟩
   obtain⟨cs,hr1,hr2⟩:=hi i d hd
   exact⟨cs,hr1.of_heap (hH b hb),zG.mono hI hH _ _ _ hr2⟩
 |rnd p=>
  show w'.heap[E'.ρ k]? = some (E'.rc k p)/\∃r,E'.rc k p = .loop r
  rw[h.rho k hU,h.rc k hU,hh trivial]
  exact hr
 |mp es=>
  obtain⟨ents,clock,h1,h2⟩:=hr
  exact⟨ents,clock,by rw[h.rho k hU,hh trivial];exact h1,h2⟩
 |hole e vs i x=>
  obtain⟨h1,⟨h2,h3⟩,cap,cur,h4,h5,h6⟩:=hr
  exact⟨h1,⟨h.used x h2,by rw[h.sv x h2];exact h3⟩,cap,cur,by rw[h.sv k hU,h.rho k hU];exact h4,by rw[h.rho k hU,hh trivial];exact h5,by rw[h.sv x h2];exact h6⟩
theorem Ob.xI{E E' : En}{k:Nat}{o:Ob}(h:E'.sv k=E.sv k) (hl:o.live E' k):o.live E k:=by
 cases o with
 |box c=>trivial
 |row e t l=>show E.sv k≠_;rw[<- h];exact hl
 |frz t l=>exact hl
 |nw x t l=>exact hl
 |clip t l=>exact hl
 |rnd p=>trivial
 |mp es=>trivial
 |hole e vs i x=>trivial
def En.setρ(E:En)(id b:Nat):En:={ E with ρ:=fun k=>if k=id then b else E.ρ k }
structure Grows (w w' : World):Prop where
 os:w'.os=w.os
 tape:w'.tape=w.tape
 output:w'.output=w.output
 size:w.heap.size<=w'.heap.size
 drawn:w.drawn<=w'.drawn
 block:∀b,b<w.heap.size->w'.heap[b]? = w.heap[b]?
theorem Grows.alloc(w:World)(o:Obj):Grows w (w.alloc o):=⟨rfl,rfl,rfl,by simp,Nat.le_refl _,fun b hb=>Below.heap_alloc w o b hb⟩
theorem Grows.frm{w0:World}{M:Nat->Prop}{w w' : World}(h:Frm w0 M w) (g:Grows w w'):Frm w0 M w' :=
 ⟨g.os.trans h.os,g.tape.trans h.tape,g.output.trans h.output,Nat.le_trans h.size g.size,Nat.le_trans h.drawn g.drawn,fun b hb hm=>(g.block b (Nat.lt_of_lt_of_le hb h.size)).trans (h.block b hb hm)⟩
theorem HSat.add'{w0:World}{M:Nat->Prop}{E E' : En}{U:Nat->Bool}{H:Hp}{w w' : World}(hs:HSat w0 M E U H w) {id:Nat}{o:Ob}(hid:U id=false) (hf:Frm w0 M w') (hsz:w.heap.size<=w'.heap.size)
  (hI:E'.I=E.I) (hle:En.Le U (apU U [id]) E E' w w') (hblk:∀j,jF E H j->w'.heap[E.ρ j]? = w.heap[E.ρ j]?)
  (hnew:o.live E' id->(∀j,jF E H j->E.ρ j≠E'.ρ id)/\¬ E.I (E'.ρ id)/\(M (E'.ρ id)\/w0.heap.size<=E'.ρ id)) (ho:pJ E' (apU U [id]) w' id o) :
  HSat w0 M E' (apU U [id]) (apH H [(id,some o)]) w':=by
 have hlv:∀k,jF E' (apH H [(id,some o)]) k->(k=id/\o.live E' id)\/(jF E H k/\U k=true):=by
  rintro k ⟨ob,hk,hl⟩
  rw[apH1] at hk
  split at hk
  ·rename_i e
   subst e
   cases hk
   exact .inl ⟨rfl,hl⟩
  ·have hu:=(hs.ob k ob hk).1
   exact .inr ⟨⟨ob,hk,Ob.xI (hle.sv k hu) hl⟩,hu⟩
 refine⟨?_,?_,?_,?_,?_,hf⟩
 ·intro k ob hk
  rw[apH1] at hk
  split at hk
  ·rename_i e
   subst e
   cases hk
   exact⟨by rw[gD];simp,ho⟩
  ·obtain⟨h1,h2⟩:=hs.ob k ob hk
   exact⟨by rw[gD,h1];rfl,h2.mono hle h1 fun hl=>hblk k ⟨ob,hk,hl⟩⟩
 ·intro j k hj hk he
  rcases hlv j hj with⟨rfl,hl⟩ |⟨hj1,hj2⟩<;>rcases hlv k hk with⟨rfl,hl'⟩ |⟨hk1,hk2⟩
  ·rfl
  ·rw[hle.rho k hk2] at he
   exact absurd he.symm ((hnew hl).1 k hk1)
  ·rw[hle.rho j hj2] at he
   exact absurd he ((hnew hl').1 j hj1)
  ·rw[hle.rho j hj2,hle.rho k hk2] at he
   exact hs.inj j k hj1 hk1 he
 ·intro k hk
  rcases hlv k hk with⟨rfl,hl⟩ |⟨hk1,hk2⟩
  ·rw[hI];exact (hnew hl).2.1
  ·rw[hI,hle.rho k hk2]
   exact hs.imm k hk1
 ·intro b hb'
  rw[hI] at hb'
  exact Nat.lt_of_lt_of_le (hs.lt b hb') hsz
 ·intro k hk
  rcases hlv k hk with⟨rfl,hl⟩ |⟨hk1,hk2⟩
  ·exact (hnew hl).2.2
  ·rw[hle.rho k hk2]
   exact hs.mine k hk1
theorem HSat.add{w0:World}{M:Nat->Prop}{E E' : En}{U:Nat->Bool}{H:Hp}{w w' : World}(hs:HSat w0 M E U H w) {id:Nat}{o:Ob}(hid:U id=false) (g:Grows w w')
  (hI:E'.I=E.I) (hle:En.Le U (apU U [id]) E E' w w') (hb:o.live E' id->w.heap.size<=E'.ρ id) (ho:pJ E' (apU U [id]) w' id o) :
  HSat w0 M E' (apU U [id]) (apH H [(id,some o)]) w' :=
 hs.add' hid (Grows.frm hs.frame g) g.size hI hle (fun j hj=>g.block _ (hs.jV hj))
  (fun hl=>⟨fun j hj e=>by have:=hs.jV hj;have:=hb hl;omega,fun hx=>by have:=hs.lt _ hx;have:=hb hl;omega,.inr (Nat.le_trans hs.frame.size (hb hl))⟩) ho
theorem le_setρ{w0:World}{M:Nat->Prop}{E:En}{U:Nat->Bool}{H:Hp}{w w' : World}(hs:HSat w0 M E U H w) {id:Nat}(hid:U id=false) (g:Grows w w') (b:Nat):En.Le U (apU U [id]) E (E.setρ id b) w w' :=
 ⟨fun k hk=>by rw[gD,hk];rfl,fun k hk=>by
  have:k≠id:=fun e=>by rw[e,hid] at hk;cases hk
  simp[En.setρ,this],fun _ _=>rfl,fun _ h=>h,fun b hb=>g.block b (hs.lt b hb),fun _ _=>rfl⟩
theorem HSat.addBox{w0:World}{M:Nat->Prop}{E:En}{U:Nat->Bool}{H:Hp}{w:World}(hs:HSat w0 M E U H w) {id:Nat}(hid:U id=false) {cells:List SV}{vs:List Value}(hr:zA E U w cells vs) (ty:TypeId) :
  En.Le U (apU U [id]) E (E.setρ id w.heap.size) w (w.alloc (.cells (zP cells vs).toArray ty)) /\
  HSat w0 M (E.setρ id w.heap.size) (apU U [id]) (apH H [(id,some (.box cells))]) (w.alloc (.cells (zP cells vs).toArray ty)):=by
 have g:=Grows.alloc w (.cells (zP cells vs).toArray ty)
 have hle:=le_setρ hs hid g w.heap.size
 refine⟨hle,hs.add hid g rfl hle (by simp[En.setρ]) ⟨vs,ty,?_,zA.mono hle _ _ hr⟩⟩
 simp only[En.setρ,if_true]
 exact heap_alloc_new w _
def xX:SV->Option (List SV)
 |.agg cs=>some cs
 |.any |.tup _ |.arr _ _ _ |.big _=>none
 |s=>some [s]
def SV.one:SV->Bool
 |.agg _ |.tup _ |.any |.arr _ _ _ |.big _=>false
 |_=>true
theorem SV.one_ok{E:En}{U:Nat->Bool}{w:World}{s:SV}{v:Value}(h:s.one=true) (hr:Rep E U w s v):v.oneCell'=true/\v.cells = #[v]:=by
 cases s<;>simp[SV.one] at h<;>unfold Rep at hr
 case int=>subst hr;exact⟨rfl,rfl⟩
 case bool=>subst hr;exact⟨rfl,rfl⟩
 case str=>subst hr;exact⟨rfl,rfl⟩
 case sl=>obtain⟨u,hu,p,cap,rfl,_⟩:=hr;cases hu;exact⟨rfl,rfl⟩
 case bsl=>rw[hr.2];exact⟨rfl,rfl⟩
 case sub=>obtain⟨_,_,_,_,_,rfl⟩:=hr;exact⟨rfl,rfl⟩
 case osl=>obtain⟨⟨u,hu,p,cap,rfl,_⟩,_⟩:=hr;cases hu;exact⟨rfl,rfl⟩
 case nsl=>obtain⟨⟨u,hu,p,cap,rfl,_⟩,_⟩:=hr;cases hu;exact⟨rfl,rfl⟩
 case adr=>obtain⟨b,o,cs,rfl,_⟩:=hr;exact⟨rfl,rfl⟩
 case ptr=>rw[hr.2];exact⟨rfl,rfl⟩
 case own=>obtain⟨_,_,_,_,_,rfl⟩:=hr;exact⟨rfl,rfl⟩
 case oel=>rw[hr.2];exact⟨rfl,rfl⟩
 case nils=>subst hr;exact⟨rfl,rfl⟩
 case nilp=>subst hr;exact⟨rfl,rfl⟩
 case fn f cs=>
  obtain⟨vs,rfl,_⟩:=hr
  unfold fnVal
  cases Nat.ble 4294967296 f<;>exact⟨rfl,rfl⟩
 case yld=>rw[hr.2];exact⟨rfl,rfl⟩
 case mp=>rw[hr.2];exact⟨rfl,rfl⟩
theorem yB{E:En}{U:Nat->Bool}{w:World}{s:SV}{c:List SV}{v:Value}(h:xX s=some c) (hr:Rep E U w s v):zA E U w c v.cells.toList:=by
 cases s with
 |agg cs=>cases h;unfold Rep at hr;obtain⟨vs,rfl,hl⟩:=hr;exact hl
 |any=>cases h
 |tup cs=>cases h
 |arr t n l=>cases h
 |big cs=>cases h
 |_=>cases h;rw[(SV.one_ok rfl hr).2];exact zA.cons hr zA.nil
theorem zA.allOne{E:En}{U:Nat->Bool}{w:World}:∀{c:List SV}{vs:List Value},c.all SV.one=true->zA E U w c vs->∀v∈vs,v.oneCell'=true
 | [],_,_,h=>by unfold zA at h;subst h;simp
 |x::c,_,ha,h=>by
  unfold zA at h
  obtain⟨v,r,rfl,h1,h2⟩:=h
  simp only[List.all_cons,Bool.and_eq_true] at ha
  intro u hu
  rcases List.mem_cons.1 hu with rfl |hu
  ·exact (SV.one_ok ha.1 h1).1
  ·exact zA.allOne ha.2 h2 u hu
def boxCells:SV->Option (List SV)
 |.big cs=>some cs
 |x=>match xX x with
  |some c=>bif qT c then some c else none
  |none=>none
theorem boxCells_ok{E:En}{U:Nat->Bool}{w:World}{s:SV}{c:List SV}{v:Value}(h:boxCells s=some c) (hr:Rep E U w s v):∃vs,zA E U w c vs/\zP c vs=v.cells.toList:=by
 have key:∀c',xX s=some c'->(bif qT c' then some c' else none)=some c->∃vs,zA E U w c vs/\zP c vs=v.cells.toList:=fun c' hc h=>by
  cases hn:qT c'
  ·rw[hn] at h;cases h
  ·rw[hn] at h
   cases h
   have hr':=yB hc hr
   exact⟨_,hr',vH hn hr'.length⟩
 have other:(∀cs,s ≠ .big cs)->∃vs,zA E U w c vs/\zP c vs=v.cells.toList:=fun hb=>by
  have h' : (match xX s with
   |some c=>bif qT c then some c else none
   |none=>none)=some c:=by
   cases s<;>first |exact h |exact absurd rfl (hb _)
  split at h'
  ·rename_i c' hc
   exact key c' hc h'
  ·cases h'
 cases s with
 |big cs=>
  cases h
  unfold Rep at hr
  obtain⟨vs,rfl,hl⟩:=hr
  exact⟨vs,hl,rfl⟩
 |_=>exact other (fun cs e=>by cases e)
def semBox(id:Nat)(x:SV):Option Eff :=
 match boxCells x with
 |some c=>some { res:=.ptr id 0,upd:=[(id,some (.box c))],news:=[id] }
 |none=>none
theorem semBox_ok{P:Program}{H:Hp}{o:Oper}{t:TypeId}{x:Operand}{id:Nat}{s:SV}{eff:Eff}(ho:o.op = .box t x) (h:semBox id s=some eff):zS P o [s] H eff:=by
 unfold semBox at h
 split at h
 ·rename_i c hc
  cases h
  intro w0 M E U w ρv hs hr hn _
  simp only[ho,Op.operands] at hr
  obtain⟨v,hv,hx⟩:=pT hr
  simp only[List.map_cons,List.map_nil,List.cons.injEq,and_true] at hv
  obtain⟨vs,hvs,hfl⟩:=boxCells_ok hc hx
  obtain⟨hle,hs'⟩:=hs.addBox (hn id (by simp)) hvs t
  rw[hfl] at hle hs'
  refine yA.value (v:=.pointer (some ⟨w.heap.size,0,none⟩)) (w':=w.alloc (.cells v.cells t)) ?_ ⟨_,hle,hs',fun b hb=>.inl hb,?_⟩
  ·unfold execOp
   simp only[ho,hv]
   simp[Instr.box,newVar,newRow]
  ·unfold Rep
   exact⟨by rw[gD];simp,by simp[En.setρ]⟩
 ·cases h
def svOf1:Value->SV
 |.int k n=>.int k n
 |.bool b=>.bool b
 |.string s=>.str s
 |.slice none 0 0=>.nils
 |.pointer none=>.nilp
 |.tuple ⟨[]⟩=>.tup []
 |.func (.func f) ⟨[]⟩ ⟨[]⟩=>bif Nat.ble 4294967296 f then .any else .fn f []
 |_=>.any
def svOf:Value->SV
 |.agg cs=>.agg (cs.toList.map svOf1)
 |v=>svOf1 v
theorem svOf1_ok(E:En)(U:Nat->Bool)(w:World)(v:Value):Rep E U w (svOf1 v) v:=by
 unfold svOf1
 split
 ·unfold Rep;rfl
 ·unfold Rep;rfl
 ·unfold Rep;rfl
 ·unfold Rep;rfl
 ·unfold Rep;rfl
 ·unfold Rep;exact⟨[],rfl,zA.nil⟩
 ·rename_i f
  cases hb:Nat.ble 4294967296 f with
  |true=>rw[cond_true];unfold Rep;trivial
  |false=>rw[cond_false];unfold Rep;exact⟨[],(pG hb []).symm,zA.nil⟩
 ·unfold Rep;trivial
theorem svOf1_all(E:En)(U:Nat->Bool)(w:World):∀vs:List Value,zA E U w (vs.map svOf1) vs
 | []=>zA.nil
 |v::vs=>zA.cons (svOf1_ok E U w v) (svOf1_all E U w vs)
theorem svOf_ok(E:En)(U:Nat->Bool)(w:World)(v:Value):Rep E U w (svOf v) v:=by
 unfold svOf
 split
 ·unfold Rep;exact⟨_,rfl,svOf1_all E U w _⟩
 ·exact svOf1_ok E U w v
def allocCells(P:Program)(t:TypeId):Option (List SV) :=
 match P.info? t with
 |some i=>match i.zero with
  |some .nilFunc=>some [.any]
  |some v=>xX (svOf v)
  |none=>none
 |none=>none
theorem allocCells_ok{P:Program}{t:TypeId}{c:List SV}(h:allocCells P t=some c) (w:World):∃v,(zeroValue t).run P w = .ok v w/\∀E U w,zA E U w c v.cells.toList:=by
 unfold allocCells at h
 cases hi:P.info? t with
 |none=>simp[hi] at h
 |some i=>
  simp only[hi] at h
  split at h
  ·rename_i hz
   cases h
   refine⟨.nilFunc,by simp[zeroValue,typeInfo,hi,hz],fun E U w=>?_⟩
   have ha:Rep E U w SV.any .nilFunc:=by unfold Rep;trivial
   exact zA.cons ha zA.nil
  ·rename_i v _ hz
   exact⟨v,by simp[zeroValue,typeInfo,hi,hz],fun E U w=>yB h (svOf_ok E U w v)⟩
  ·cases h
def semAlloc(P:Program)(id:Nat)(t:TypeId):Option Eff :=
 match allocCells P t with
 |some c=>bif qT c then some { res:=.ptr id 0,upd:=[(id,some (.box c))],news:=[id] } else none
 |none=>none
theorem semAlloc_ok{P:Program}{H:Hp}{o:Oper}{t:TypeId}{id:Nat}{eff:Eff}(ho:o.op = .alloc t) (h:semAlloc P id t=some eff):zS P o [] H eff:=by
 unfold semAlloc at h
 split at h
 ·rename_i c hc
  cases hna:qT c
  ·rw[hna] at h;cases h
  rw[hna,cond_true] at h
  cases h
  intro w0 M E U w ρv hs hr hn _
  obtain⟨v,hrun,hrep⟩:=allocCells_ok hc w
  obtain⟨hle,hs'⟩:=hs.addBox (hn id (by simp)) (hrep E U w) t
  rw[vH hna (hrep E U w).length] at hle hs'
  refine yA.value (v:=.pointer (some ⟨w.heap.size,0,none⟩)) (w':=w.alloc (.cells v.cells t)) ?_ ⟨_,hle,hs',fun b hb=>.inl hb,?_⟩
  ·unfold execOp
   simp only[ho]
   simp[Instr.alloc,hrun,newVar,newRow]
  ·unfold Rep
   exact⟨by rw[gD];simp,by simp[En.setρ]⟩
 ·cases h
theorem HSat.turn{w0:World}{M:Nat->Prop}{E:En}{U:Nat->Bool}{H:Hp}{w:World}(hs:HSat w0 M E U H w) {k:Nat}{o o' : Ob}(hk:H k=some o) (hl:o.live E k) (cs:Array Value)
  (ho:∀w',w'=w.setRow (E.ρ k) cs->En.Le U U E E w w'->pJ E U w' k o') :
  En.Le U U E E w (w.setRow (E.ρ k) cs)/\HSat w0 M E U (apH H [(k,some o')]) (w.setRow (E.ρ k) cs):=by
 have hlive:jF E H k:=⟨o,hk,hl⟩
 have hImm:=hs.imm k hlive
 have hle:En.Le U U E E w (w.setRow (E.ρ k) cs):=⟨fun _ h=>h,fun _ _=>rfl,fun _ _=>rfl,fun _ h=>h,fun b hb=>setRow_other w (E.ρ k) b cs (fun e=>hImm (e ▸ hb)),fun _ _=>rfl⟩
 have hlv:∀j,jF E (apH H [(k,some o')]) j->jF E H j:=by
  rintro j ⟨ob,hj,hlj⟩
  rw[apH1] at hj
  split at hj
  ·rename_i e;subst e;exact hlive
  ·exact⟨ob,hj,hlj⟩
 refine⟨hle,?_,fun a b ha hb he=>hs.inj a b (hlv a ha) (hlv b hb) he,fun j hj=>hs.imm j (hlv j hj),fun b hb=>by rw[size_setRow];exact hs.lt b hb,fun j hj=>hs.mine j (hlv j hj),?_⟩
 ·intro j ob hj
  rw[apH1] at hj
  split at hj
  ·rename_i e
   subst e
   cases hj
   exact⟨(hs.ob _ _ hk).1,ho _ rfl hle⟩
  ·rename_i hne
   obtain⟨h1,h2⟩:=hs.ob j ob hj
   exact⟨h1,h2.mono hle h1 fun hlj=>setRow_other w _ _ cs fun e=>hne (hs.inj j k ⟨ob,hj,hlj⟩ hlive e)⟩
 ·have hf:=hs.frame
  refine⟨hf.os,hf.tape,hf.output,by rw[size_setRow];exact hf.size,hf.drawn,fun b hb hm=>?_⟩
  rw[setRow_other w _ _ cs]
  ·exact hf.block b hb hm
  ·intro e
   rcases hs.mine k hlive with h |h
   ·exact hm (e ▸ h)
   ·omega
def semStore(P:Program)(H:Hp)(t:TypeId)(x y:SV):Option Eff :=
 match xT P t,xX y with
 |some n,some c=>if Nat.beq c.length n&&c.all SV.one then match x with
  |.ptr k off=>match H k with
   |some (.box cells)=>bif qT cells&&qT c then if Nat.ble (off+n) cells.length then some { res:=.tup [],upd:=[(k,some (.box (cells.take off++c++cells.drop (off+n))))] } else none
    else match pQ off cells with
    |some (a,r)=>bif qT (r.take n)&&Nat.ble n r.length&&qT c then some { res:=.tup [],upd:=[(k,some (.box (a++(c++r.drop n))))] } else none
    |none=>none
   |_=>none
  |.oel k s i off=>match H k with
   |some (.row e ty l)=>if Nat.beq s ty.size&&Nat.ble (off+n) s then
     match ty.vO (((ty.cells (l.getD i ty.gB)).take off)++c++((ty.cells (l.getD i ty.gB)).drop (off+n))) with
     |some (d,[])=>some { need:=some (i<l.length),res:=.tup [],upd:=[(k,some (.row e ty (l.set i d)))] }
     |_=>none
    else none
   |some (.box cells)=>match pQ off cells with
    |some (a,.arr ty m l::r)=>if Nat.beq s ty.size&&Nat.beq n s then match ty.vO c with
     |some (d,[])=>some { need:=some (i<l.length),res:=.tup [],upd:=[(k,some (.box (a++(.arr ty m (l.set i d)::r))))] }
     |_=>none
     else none
    |_=>none
   |some (.hole e vs j _)=>if Nat.beq s 1&&Nat.beq off 0&&Nat.beq n 1 then match c with
    | [.own z]=>some { need:=some (i=j),res:=.tup [],upd:=[(k,some (.hole e vs i z))] }
    |_=>none
    else none
   |_=>none
  |_=>none
  else none
 |_,_=>none
theorem q_(E:En)(U:Nat->Bool)(w:World):Rep E U w (.tup []) undef:=by unfold Rep;exact⟨[],rfl,zA.nil⟩
theorem zZ.mk{I:Nat->Prop}{w:World}{t:Ty}{l m:List t.den}{d:t.den}{a b c:List Value}(h1:zZ I w t l a) (h2:zG I w t d b) (h3:zZ I w t m c):zZ I w t (l++d::m) (a++(b++c)) :=
 h1.append ⟨b,c,rfl,h2,h3⟩
theorem list_splice{α:Type}(xa xb xc rest u:List α) (off n:Nat) (h:off+n<=xb.length) :
  (xa++(xb++xc)++rest).take (xa.length+off)++u++(xa++(xb++xc)++rest).drop (xa.length+off+n)=xa++((xb.take off++u++xb.drop (off+n))++xc)++rest:=by
 have e:xa++(xb++xc)++rest=xa++(xb++(xc++rest)):=by simp
 rw[e,Nat.add_assoc,List.take_length_add_append,List.drop_length_add_append,List.take_append_of_le_length (by omega),List.drop_append_of_le_length h]
 simp
theorem xY{P:Program}{t:TypeId}{w:World}{b o n:Nat}{v:Value}{cur:Array Value}{ty:TypeId}(hs:xT P t=some n) (hv:v.cells.size=n) (hb:w.heap[b]? = some (.cells cur ty (0,0))) (hfit:o+n<=cur.size)
  (h1:∀u∈v.cells.toList,u.oneCell'=true) :
  (storeVar t ⟨b,o,none⟩ v).run P w = .ok () (w.setRow b (cur.toList.take o++v.cells.toList++cur.toList.drop (o+n)).toArray):=by
 have hst:=run_storeCells_at P b o ty v.cells.toList 0 cur w hb (by simp;omega) h1
 simp only[Nat.add_zero,Array.length_toList,hv] at hst
 simp[storeVar,vE hs,hv,hst]
theorem run_storeCells_mk{P:Program}(g o:Nat) (t:TypeId) (mk:Nat × Nat):∀(vs:List Value)(i:Nat)(cur:Array Value)(w:World),w.heap[g]? = some (.cells cur t mk)->(mk=(0,0)\/cur.size<=mk.1)->o+i+vs.length<=cur.size->(∀v∈vs,v.oneCell'=true) ->
  (storeCells ⟨g,o,none⟩ vs i).run P w = .ok () (w.setRow g (cur.toList.take (o+i)++vs++cur.toList.drop (o+i+vs.length)).toArray)
 | [],i,cur,w,hg,_,_,_=>by
  simp only[storeCells,List.append_nil,List.length_nil,Nat.add_zero,List.take_append_drop,Array.toArray_toList]
  rw[setRow_self w g cur t mk hg]
  rfl
 |v::rest,i,cur,w,hg,hm,hl,h1=>by
  have hi:o+i<cur.size:=by simp at hl;omega
  have hadd:(⟨g,o,none⟩:Addr).add i=⟨g,o+i,none⟩:=by unfold Addr.add;split<;>simp_all
  have hcell:w.cell? ⟨g,o+i,none⟩=some cur[o+i]:=by simp[World.cell?,hg,hi]
  have hfro:w.frozen? ⟨g,o+i,none⟩=false:=by
   rcases hm with rfl |hm
   ·simp[World.frozen?,hg]
   ·obtain⟨a,b⟩:=mk
    have hm:cur.size<=a:=hm
    have:decide (a<=o+i)=false:=decide_eq_false (by omega)
    simp[World.frozen?,hg,this]
  have hst:(store ((⟨g,o,none⟩:Addr).add i) v).run P w = .ok () (w.setRow g (cur.setIfInBounds (o+i) v)):=by
   rw[hadd,run_store P w _ v _ (h1 v (by simp)),hcell]
   simp[hfro,setCell_eq_setRow w g (o+i) cur t mk v hg]
  have ih:=run_storeCells_mk (P:=P) g o t mk rest (i+1) (cur.setIfInBounds (o+i) v) (w.setRow g (cur.setIfInBounds (o+i) v)) (setRow_heap w g cur _ t _ hg) (by rw[Array.size_setIfInBounds];exact hm) (by simp at hl ⊢;omega) (fun x hx=>h1 x (by simp[hx]))
  simp only[storeCells,Sem.run_bind,hst,Result.andThen_ok,ih,setRow_setRow]
  congr 3
  have e:=list_seg_step cur.toList (o+i) v rest (by simp at hl ⊢;omega)
  simpa[Array.toList_setIfInBounds,Nat.add_assoc] using e
theorem run_storeVar_mk{P:Program}{t:TypeId}{w:World}{b o n:Nat}{v:Value}{cur:Array Value}{ty:TypeId}{mk:Nat × Nat}(hs:xT P t=some n) (hv:v.cells.size=n) (hb:w.heap[b]? = some (.cells cur ty mk)) (hm:mk=(0,0)\/cur.size<=mk.1) (hfit:o+n<=cur.size)
  (h1:∀u∈v.cells.toList,u.oneCell'=true) :
  (storeVar t ⟨b,o,none⟩ v).run P w = .ok () (w.setRow b (cur.toList.take o++v.cells.toList++cur.toList.drop (o+n)).toArray):=by
 have hst:=run_storeCells_mk (P:=P) b o ty mk v.cells.toList 0 cur w hb hm (by simp;omega) h1
 simp only[Nat.add_zero,Array.length_toList,hv] at hst
 simp[storeVar,vE hs,hv,hst]
theorem semStore_ok{P:Program}{H:Hp}{o:Oper}{t:TypeId}{x y:Operand}{a b:SV}{eff:Eff}(ho:o.op = .store t x y) (h:semStore P H t a b=some eff):zS P o [a,b] H eff:=by
 unfold semStore at h
 split at h
 ·rename_i n c hn hc
  split at h
  ·rename_i hcond
   simp only[Bool.and_eq_true] at hcond
   have hlen:=nbT hcond.1
   split at h
   ·rename_i k off
    split at h
    ·rename_i cells hk
     cases hna:qT cells&&qT c
     ·rw[hna,cond_false] at h
      split at h
      ·rename_i pre r hsp
       cases hnb:qT (r.take n)&&Nat.ble n r.length&&qT c
       ·rw[hnb] at h;cases h
       rw[hnb,cond_true] at h
       simp only[Bool.and_eq_true] at hnb
       obtain⟨⟨hn1,hn2⟩,hn3⟩:=hnb
       have hn2:=Nat.le_of_ble_eq_true hn2
       cases h
       intro w0 M E U w ρv hs hr _ _
       simp only[ho,Op.operands] at hr
       obtain⟨v,u,hv,hx,hy⟩:=vD hr
       simp only[List.map_cons,List.map_nil,List.cons.injEq,and_true] at hv
       have hrc:=yB hc hy
       obtain⟨_,vs,ty,hb,hvs⟩:=hs.ob k _ hk
       unfold Rep at hx
       have husz:u.cells.size=n:=by have:=hrc.length;rw[Array.length_toList] at this;omega
       obtain⟨e1,va,vb,e2,h1,h2,h3⟩:=gT hsp hvs
       have hbl:=h2.length
       have hfr:zP r vb=vb.take n++zP (r.drop n) (vb.drop n):=by
        have e3:zP r vb=zP (r.take n++r.drop n) (vb.take n++vb.drop n):=by rw[List.take_append_drop,List.take_append_drop]
        have hl:(vb.take n).length=(r.take n).length:=by rw[List.length_take,List.length_take,hbl]
        rw[e3,vX hl,vH hn1 hl]
       have hfl:zP cells vs=zP pre va++(vb.take n++zP (r.drop n) (vb.drop n)):=by rw[e1,e2,vX h1.length,hfr]
       have htl:(vb.take n).length=n:=by rw[List.length_take];omega
       have hrun:=xY (P:=P) (t:=t) (o:=off) (v:=u) hn husz hb (by rw[hfl];simp only[List.size_toArray,List.length_append];omega) (zA.allOne hcond.2 hrc)
       have hnew:(zP cells vs).toArray.toList.take off++u.cells.toList++(zP cells vs).toArray.toList.drop (off+n)=zP (pre++(c++r.drop n)) (va++(u.cells.toList++vb.drop n)):=by
        have hcl:u.cells.toList.length=c.length:=hrc.length
        rw[vX h1.length,vX hcl,vH hn3 hcl,List.toList_toArray,hfl,<- h3,List.take_left,<- List.drop_drop,List.drop_left,List.drop_append_of_le_length (by omega),List.drop_of_length_le (by omega),List.nil_append,List.append_assoc]
       rw[hnew] at hrun
       obtain⟨hle,hs'⟩:=hs.turn (o':=.box (pre++(c++r.drop n))) hk trivial (zP (pre++(c++r.drop n)) (va++(u.cells.toList++vb.drop n))).toArray
        (fun w' hw' hle=>⟨va++(u.cells.toList++vb.drop n),ty,by rw[hw'];exact setRow_heap w _ _ _ _ _ hb,zA.mono hle _ _ (h1.append (hrc.append (h2.drop n)))⟩)
       refine yA.skip (w':=w.setRow (E.ρ k) (zP (pre++(c++r.drop n)) (va++(u.cells.toList++vb.drop n))).toArray) ?_ ⟨E,by rw[vC];exact hle,by rw[vC];exact hs',vZ.refl rfl H w,q_ _ _ _⟩
       unfold execOp
       simp only[ho,hv.1,hv.2,hx.2]
       simp[Instr.storeAt,Instr.sureAddr,hrun]
      ·cases h
     rw[hna,cond_true] at h
     rw[Bool.and_eq_true] at hna
     split at h
     ·rename_i hfit
      have hfit':=Nat.le_of_ble_eq_true hfit
      cases h
      intro w0 M E U w ρv hs hr _ _
      simp only[ho,Op.operands] at hr
      obtain⟨v,u,hv,hx,hy⟩:=vD hr
      simp only[List.map_cons,List.map_nil,List.cons.injEq,and_true] at hv
      have hrc:=yB hc hy
      obtain⟨_,vs,ty,hb,hvs⟩:=hs.ob k _ hk
      rw[vH hna.1 hvs.length] at hb
      unfold Rep at hx
      have husz:u.cells.size=n:=by have:=hrc.length;rw[Array.length_toList] at this;omega
      have hvl:=hvs.length
      have hplain:∀us:List Value,us.length=(cells.take off++c++cells.drop (off+n)).length->zP (cells.take off++c++cells.drop (off+n)) us=us:=fun us hl=>vH (by
       have ha:=hna.1
       have hb:=hna.2
       unfold qT at *
       rw[List.all_append,List.all_append,hb,List.all_eq_true.2 fun x hx=>List.all_eq_true.1 ha x (List.mem_of_mem_take hx),List.all_eq_true.2 fun x hx=>List.all_eq_true.1 ha x (List.mem_of_mem_drop hx)]
       rfl) hl
      have hcl:u.cells.toList.length=c.length:=hrc.length
      have hrun:=xY (P:=P) (t:=t) (o:=off) (v:=u) hn husz hb (by simp;omega) (zA.allOne hcond.2 hrc)
      obtain⟨hle,hs'⟩:=hs.turn (o':=.box (cells.take off++c++cells.drop (off+n))) hk trivial (vs.toArray.toList.take off++u.cells.toList++vs.toArray.toList.drop (off+n)).toArray
       (fun w' hw' hle=>⟨_,ty,by rw[hw',hplain _ (by simp only[List.length_append,List.length_take,List.length_drop];rw[hvl,hcl])];exact setRow_heap w _ _ _ _ _ hb,zA.mono hle _ _ (((hvs.take off).append hrc).append (hvs.drop (off+n)))⟩)
      refine yA.skip (w':=w.setRow (E.ρ k) (vs.toArray.toList.take off++u.cells.toList++vs.toArray.toList.drop (off+n)).toArray) ?_ ⟨E,by rw[vC];exact hle,by rw[vC];exact hs',vZ.refl rfl H w,q_ _ _ _⟩
      unfold execOp
      simp only[ho,hv.1,hv.2,hx.2]
      simp[Instr.storeAt,Instr.sureAddr,hrun]
     ·cases h
    ·cases h
   ·rename_i k s i off
    split at h
    ·rename_i e ty l hk
     split at h
     ·rename_i hc2
      simp only[Bool.and_eq_true,Nat.ble_eq] at hc2
      have hsz:=nbT hc2.1
      split at h
      ·rename_i d hd
       cases h
       intro w0 M E U w ρv hs hr _ hi
       simp only[ho,Op.operands] at hr
       obtain⟨v,u,hv,hx,hy⟩:=vD hr
       simp only[List.map_cons,List.map_nil,List.cons.injEq,and_true] at hv
       have hrc:=yB hc hy
       obtain⟨_,xs,hown,hfl,hsv⟩:=hs.ob k _ hk
       unfold Rep at hx
       have hi' : i<l.length:=hi
       have hget:l[i]? = some (l.getD i ty.gB):=by simp[List.getD,List.getElem?_eq_getElem hi']
       obtain⟨xa,xb,xc,exs,hxa,hdr,hfa,hfc⟩:=zZ.at hfl hget
       have husz:u.cells.size=n:=by have:=hrc.length;rw[Array.length_toList] at this;omega
       have hxb:=zG.length ty _ _ hdr
       obtain⟨hown1,hown2⟩:=hown
       rcases hown2 with⟨_,hno⟩ |⟨g,cap,cur,tyb,mk,hgv,hg,hnc,hcm,hcs,htake,hmk⟩
       ·omega
       have hsv2:E.sv k = .slice (some ⟨E.ρ k,0,none⟩) l.length cap/\g=E.ρ k:=by
        rcases hsv with h0 |⟨cap',h0⟩
        ·rw[h0] at hgv;cases hgv
        ·rw[h0] at hgv;cases hgv;exact⟨h0,rfl⟩
       obtain⟨hsv2,rfl⟩:=hsv2
       have hcl:xs.length<=cur.size:=by rw[<- htake,List.length_take,<- Array.length_toList (xs:=cur)];exact Nat.min_le_right _ _
       have hxl:xs.length=xa.length+(xb.length+xc.length):=by rw[exs];simp
       have hrun:=run_storeVar_mk (P:=P) (t:=t) (o:=i*s+off) (v:=u) hn husz hg (hmk.elim (fun h=>.inl h.2) fun h=>.inr (by rw[h.2];exact Nat.le_refl _)) (by rw[hsz] at hc2 ⊢;omega) (zA.allOne hcond.2 hrc)
       -- the new element
       have hcells:=zG.cells (E:=E) (U:=U) ty _ xb hdr
       obtain⟨y1,y2,hy12,hdy,hnil⟩:=Ty.wH (E:=E) (U:=U) (w:=w) ty _ _ d [] hd (((hcells.take off).append hrc).append (hcells.drop (off+n)))
       unfold zA at hnil
       subst hnil
       rw[List.append_nil] at hy12
       -- the new row
       have hcurl:cur.toList=xa++(xb++xc)++cur.toList.drop (l.length*ty.size):=by
        rw[<- exs,<- htake,List.take_append_drop]
       have hsp:=list_splice xa xb xc (cur.toList.drop (l.length*ty.size)) u.cells.toList off n (by rw[hxb,<- hsz];exact hc2.2)
       rw[<- hcurl,hy12,hxa,<- hsz] at hsp
       have hy1:y1.length=ty.size:=zG.length ty _ _ hdy
       have hnewlen:(xa++(y1++xc)).length=l.length*ty.size:=by
        rw[<- hown1,exs];simp only[List.length_append];omega
       have hfit:i*s+off+n<=cur.size:=by rw[hsz] at hc2 ⊢;omega
       obtain⟨cur',hcur'⟩:∃c' : Array Value,c'=(cur.toList.take (i*s+off)++u.cells.toList++cur.toList.drop (i*s+off+n)).toArray:=⟨_,rfl⟩
       have hcsz:cur'.size=cap*ty.size:=by
        rw[hcur',<- hcs,List.size_toArray]
        simp only[List.length_append,List.length_take,List.length_drop,Array.length_toList,husz]
        omega
       have htk:cur'.toList.take (l.length*ty.size)=xa++(y1++xc):=by
        rw[hcur',List.toList_toArray,hsp,<- hnewlen,List.take_left]
       obtain⟨hle,hs'⟩:=hs.turn (o':=.row e ty (l.set i d)) hk (by show E.sv k≠_;rw[hsv2];simp) cur'
        (fun w' hw' hle=>⟨xa++(y1++xc),by
         rw[List.length_set]
         exact⟨hnewlen,.inr ⟨_,_,cur',tyb,mk,hsv2,by rw[hw'];exact setRow_heap w _ _ _ _ _ hg,hnc,hcm,hcsz,htk,by rw[hcsz,<- hcs];exact hmk⟩⟩,by
         rw[List.set_eq_take_append_cons_drop,if_pos hi']
         exact zZ.mono hle.imm hle.heap _ _ _ (zZ.mk hfa hdy hfc),.inr ⟨cap,by rw[List.length_set];exact hsv2⟩⟩)
       rw[<- hcur'] at hrun
       refine yA.skip (w':=w.setRow (E.ρ k) cur') ?_ ⟨E,by rw[vC];exact hle,by rw[vC];exact hs',vZ.refl rfl H w,q_ _ _ _⟩
       unfold execOp
       simp only[ho,hv.1,hv.2,hx.2]
       simp[Instr.storeAt,Instr.sureAddr,hrun]
      ·cases h
     ·cases h
    ·rename_i cells hk
     split at h
     ·rename_i pre ty m l r hsp
      split at h
      ·rename_i hc2
       simp only[Bool.and_eq_true] at hc2
       have es:=nbT hc2.1
       have en:=nbT hc2.2
       split at h
       ·rename_i d hd
        cases h
        intro w0 M E U w ρv hs hr _ hi
        simp only[ho,Op.operands] at hr
        obtain⟨v,u,hv,hx,hy⟩:=vD hr
        simp only[List.map_cons,List.map_nil,List.cons.injEq,and_true] at hv
        have hrc:=yB hc hy
        obtain⟨_,vs,tt,hb,hvs⟩:=hs.ob k _ hk
        unfold Rep at hx
        have hi' : i<l.length:=hi
        have hget:l[i]? = some (l.getD i ty.gB):=by simp[List.getD,List.getElem?_eq_getElem hi']
        obtain⟨e1,va,vb,e2,h1,h2,h3⟩:=gT hsp hvs
        unfold zA at h2
        obtain⟨x0,q,rfl,h4,h5⟩:=h2
        unfold Rep at h4
        obtain⟨xs,eu,hm,hf⟩:=h4
        obtain⟨xa,xb,xc,exs,hxa,hdr,hfa,hfc⟩:=zZ.at hf hget
        have husz:u.cells.size=n:=by have:=hrc.length;rw[Array.length_toList] at this;omega
        have hxb:=zG.length ty _ _ hdr
        have hfl:zP cells vs=zP pre va++(xa++(xb++(xc++zP r q))):=by
         rw[e1,e2,vX h1.length,zP,eu]
         simp[jU,Value.cells,exs,List.append_assoc]
        have hrun:=xY (P:=P) (t:=t) (o:=i*s+off) (v:=u) hn husz hb (by rw[hfl];simp only[List.size_toArray,List.length_append];rw[h3,hxa,es];omega) (zA.allOne hcond.2 hrc)
        obtain⟨y1,y2,hy12,hdy,hnil⟩:=Ty.wH (E:=E) (U:=U) (w:=w) ty _ _ d [] hd hrc
        unfold zA at hnil
        subst hnil
        rw[List.append_nil] at hy12
        have hnew:(zP cells vs).toArray.toList.take (i*s+off)++u.cells.toList++(zP cells vs).toArray.toList.drop (i*s+off+n)=zP (pre++(.arr ty m (l.set i d)::r)) (va++(.agg (xa++(y1++xc)).toArray::q)):=by
         rw[vX h1.length,zP,List.toList_toArray,hfl,hy12]
         simp only[jU,cond_true,Value.cells,List.toList_toArray]
         have hl1:i*s+off=(zP pre va++xa).length:=by rw[List.length_append,h3,hxa,es];omega
         have hl2:i*s+off+n=(zP pre va++xa++xb).length:=by rw[List.length_append,<- hl1,hxb];omega
         have r1:zP pre va++(xa++(xb++(xc++zP r q)))=(zP pre va++xa)++(xb++(xc++zP r q)):=by simp[List.append_assoc]
         have r2:zP pre va++(xa++(xb++(xc++zP r q)))=(zP pre va++xa++xb)++(xc++zP r q):=by simp[List.append_assoc]
         have t1:(zP pre va++(xa++(xb++(xc++zP r q)))).take (i*s+off)=zP pre va++xa:=by rw[r1,hl1,List.take_left]
         have t2:(zP pre va++(xa++(xb++(xc++zP r q)))).drop (i*s+off+n)=xc++zP r q:=by rw[r2,hl2,List.drop_left]
         rw[t1,t2]
         simp[List.append_assoc]
        rw[hnew] at hrun
        obtain⟨hle,hs'⟩:=hs.turn (o':=.box (pre++(.arr ty m (l.set i d)::r))) hk trivial (zP (pre++(.arr ty m (l.set i d)::r)) (va++(.agg (xa++(y1++xc)).toArray::q))).toArray
         (fun w' hw' hle=>⟨va++(.agg (xa++(y1++xc)).toArray::q),tt,by rw[hw'];exact setRow_heap w _ _ _ _ _ hb,zA.mono hle _ _ (h1.append (zA.cons (by
          unfold Rep
          refine⟨_,rfl,by rw[List.length_set];exact hm,?_⟩
          rw[List.set_eq_take_append_cons_drop,if_pos hi']
          exact zZ.mk hfa hdy hfc) h5))⟩)
        refine yA.skip (w':=w.setRow (E.ρ k) (zP (pre++(.arr ty m (l.set i d)::r)) (va++(.agg (xa++(y1++xc)).toArray::q))).toArray) ?_ ⟨E,by rw[vC];exact hle,by rw[vC];exact hs',vZ.refl rfl H w,q_ _ _ _⟩
        unfold execOp
        simp only[ho,hv.1,hv.2,hx.2]
        simp[Instr.storeAt,Instr.sureAddr,hrun]
       ·cases h
      ·cases h
     ·cases h
    ·rename_i e' vs j y0 hk
     split at h
     ·rename_i hc2
      simp only[Bool.and_eq_true] at hc2
      have e1:=nbT hc2.1.1
      have e2:=nbT hc2.1.2
      have e3:=nbT hc2.2
      subst e1 e2 e3
      split at h
      ·rename_i z
       cases h
       intro w0 M E U w ρv hs hr _ hi
       simp only[ho,Op.operands] at hr
       obtain⟨v,u,hv,hx,hy⟩:=vD hr
       simp only[List.map_cons,List.map_nil,List.cons.injEq,and_true] at hv
       have hrc:=yB hc hy
       have hij:i=j:=hi
       subst hij
       obtain⟨_,hil,⟨hy1,hy2⟩,cap,cur,hsv,hh,hcap,hcm,hsz,htk⟩:=hs.ob k _ hk
       unfold Rep at hx
       have hrc':=hrc
       unfold zA at hrc
       obtain⟨uz,ur,hu,hz,hnil⟩:=hrc
       unfold zA at hnil
       subst hnil
       unfold Rep at hz
       obtain⟨hz1,rfl,hz2⟩:=hz
       have husz:u.cells.size=1:=by rw[<- Array.length_toList,hu];rfl
       have hrun:=xY (P:=P) (t:=t) (o:=i*1+0) (v:=u) hn husz hh (by omega) (zA.allOne hcond.2 hrc')
       rw[hu] at hrun
       have hcur:cur.toList.take (i*1+0)++[E.sv z]++cur.toList.drop (i*1+0+1)=cur.toList.set i (E.sv z):=by
        rw[List.set_eq_take_append_cons_drop,if_pos (by rw[Array.length_toList];omega)]
        simp
       rw[hcur] at hrun
       have hrun' : (storeVar t ⟨E.ρ k,i,none⟩ u).run P w = .ok () (w.setRow (E.ρ k) (cur.toList.set i (E.sv z)).toArray):=by
        simpa using hrun
       obtain⟨hle,hs'⟩:=hs.turn (o':=.hole e' vs i z) hk trivial (cur.toList.set i (E.sv z)).toArray
        (fun w' hw' hle=>⟨hil,⟨hz1,hz2⟩,cap,(cur.toList.set i (E.sv z)).toArray,hsv,by rw[hw'];exact setRow_heap w _ _ _ _ _ hh,hcap,hcm,by rw[List.size_toArray,List.length_set,Array.length_toList];exact hsz,by
         rw[List.toList_toArray,List.take_set,htk,List.set_set]⟩)
       refine yA.skip (w':=w.setRow (E.ρ k) (cur.toList.set i (E.sv z)).toArray) ?_ ⟨E,by rw[vC];exact hle,by rw[vC];exact hs',vZ.refl rfl H w,q_ _ _ _⟩
       unfold execOp
       simp only[ho,hv.1,hv.2,hx.2]
       simp[Instr.storeAt,Instr.sureAddr,hrun']
      ·cases h
     ·cases h
    ·cases h
   ·cases h
  ·cases h
 ·cases h
end Go.Sx
namespace Go.Sx
open Go.RowKit
def Ty.sub:(t:Ty)->t.den->Nat->Nat->Option ((u:Ty) × u.den)
 |.pair a b,d,off,n=>
  if Nat.beq off 0&&Nat.beq (a.size+b.size) n then some ⟨.pair a b,d⟩
  else if Nat.ble (off+n) a.size then a.sub d.1 off n
  else if Nat.ble a.size off then b.sub d.2 (off - a.size) n
  else none
 |t,d,off,n=>if Nat.beq off 0&&Nat.beq t.size n then some ⟨t,d⟩ else none
theorem Ty.gS{I:Nat->Prop}{w:World}{t:Ty}{d:t.den}{off n:Nat}{u:(u:Ty) × u.den}{cs:List Value}(h:(if Nat.beq off 0&&Nat.beq t.size n then some (⟨t,d⟩:(u:Ty) × u.den) else none)=some u) (hr:zG I w t d cs) :
  zG I w u.1 u.2 ((cs.drop off).take n):=by
 split at h
 ·rename_i hc
  simp only[Bool.and_eq_true] at hc
  have h0:=nbT hc.1
  have h1:=nbT hc.2
  cases h
  subst h0
  rw[List.drop_zero,List.take_of_length_le (by rw[zG.length t d cs hr,h1];exact Nat.le_refl _)]
  exact hr
 ·cases h
theorem Ty.sub_ok{I:Nat->Prop}{w:World}:∀(t:Ty)(d:t.den)(off n:Nat)(u:(u:Ty) × u.den)(cs:List Value),t.sub d off n=some u->zG I w t d cs->zG I w u.1 u.2 ((cs.drop off).take n)
 |.int k,d,off,n,u,cs,h,hr=>Ty.gS (t:=.int k) (by simpa only [Ty.sub] using h) hr
 |.bool,d,off,n,u,cs,h,hr=>Ty.gS (t:=.bool) (by simpa only [Ty.sub] using h) hr
 |.str,d,off,n,u,cs,h,hr=>Ty.gS (t:=.str) (by simpa only [Ty.sub] using h) hr
 |.unit,d,off,n,u,cs,h,hr=>Ty.gS (t:=.unit) (by simpa only [Ty.sub] using h) hr
 |.sl e,d,off,n,u,cs,h,hr=>Ty.gS (t:=.sl e) (by simpa only [Ty.sub] using h) hr
 |.arr e m,d,off,n,u,cs,h,hr=>Ty.gS (t:=.arr e m) (by simpa only [Ty.sub] using h) hr
 |.pair a b,d,off,n,u,cs,h,hr=>by
  simp only[Ty.sub] at h
  split at h
  ·rename_i hc
   exact Ty.gS (t:=.pair a b) (d:=d) (off:=off) (n:=n) (by rw[show (Ty.pair a b).size=a.size+b.size from rfl,if_pos hc];exact h) hr
  ·obtain⟨x,y,rfl,h1,h2⟩:=hr
   have hx:=zG.length a _ _ h1
   split at h
   ·rename_i hle
    have hle':=Nat.le_of_ble_eq_true hle
    have:=Ty.sub_ok a d.1 off n u x h h1
    rw[List.drop_append_of_le_length (by omega),List.take_append_of_le_length (by rw[List.length_drop];omega)]
    exact this
   ·split at h
    ·rename_i hge
     have hge':=Nat.le_of_ble_eq_true hge
     have:=Ty.sub_ok b d.2 (off - a.size) n u y h h2
     rw[List.drop_append,hx,List.drop_of_length_le (by omega),List.nil_append]
     exact this
    ·cases h
theorem gF.part{w:World}{b o off n:Nat}{cs:List Value}(h:gF w b o cs):gF w b (o+off) ((cs.drop off).take n):=by
 intro j v hv
 rw[List.getElem?_take] at hv
 split at hv
 ·rw[List.getElem?_drop] at hv
  have:=h _ _ hv
  rwa [Nat.add_assoc]
 ·cases hv
def semField(P:Program)(s:TypeId)(x:SV)(f:Nat):Option Eff :=
 match P.underlying s with
 |some (.struct fs)=>match fs[f]? with
  |some fd=>match xT P fd.type with
   |some n=>if Nat.beq n 0 then none else match x with
    |.ptr k off=>some { res:=.ptr k (off+fd.offset) }
    |.oel k s i off=>some { res:=.oel k s i (off+fd.offset) }
    |.adr t d=>match t.sub d fd.offset n with
     |some ⟨u,e⟩=>some { res:=.adr u e }
     |none=>none
    |_=>none
   |none=>none
  |none=>none
 |_=>none
theorem semField_ok{P:Program}{H:Hp}{o:Oper}{s:TypeId}{x:Operand}{f:Nat}{a:SV}{eff:Eff}(ho:o.op = .fieldAddr s x f) (h:semField P s a f=some eff):zS P o [a] H eff:=by
 unfold semField at h
 split at h
 ·rename_i fs hu
  split at h
  ·rename_i fd hfd
   split at h
   ·rename_i n hn
    split at h
    ·cases h
    ·rename_i hn0
     have hn0' : n≠0:=fun e=>hn0 (by rw[e];rfl)
     have run:∀(w:World)(b off:Nat),(Instr.fieldAt s (.pointer (some ⟨b,off,none⟩)) f).run P w = .ok (.pointer (some ⟨b,off+fd.offset,none⟩)) w:=by
      intro w b off
      simp[Instr.fieldAt,run_underlying hu,hfd,Instr.sureAddr,fieldPlace,vE hn,hn0',y_]
     have key:∀(e:Eff),e.upd=[]->e.news=[]->(∀(E:En)(U:Nat->Bool)(w:World)(v:Value),Rep E U w a v->∃b off,v = .pointer (some ⟨b,off,none⟩)/\Rep E U w e.res (.pointer (some ⟨b,off+fd.offset,none⟩)))->zS P o [a] H e:=by
      intro e he1 he2 hk
      refine zS.same he2 he1 fun w0 M E U w ρv hs hr hp=>?_
      simp only[ho,Op.operands] at hr
      obtain⟨v,hv,hx⟩:=pT hr
      simp only[List.map_cons,List.map_nil,List.cons.injEq,and_true] at hv
      obtain⟨b,off,rfl,hrep⟩:=hk E U w v hx
      refine⟨_,?_,hrep⟩
      unfold execOp
      simp only[ho,hv]
      simp[run w b off]
     split at h
     ·cases h
      refine key _ rfl rfl fun E U w v hr=>?_
      unfold Rep at hr
      exact⟨_,_,hr.2,by unfold Rep;exact⟨hr.1,rfl⟩⟩
     ·cases h
      refine key _ rfl rfl fun E U w v hr=>?_
      unfold Rep at hr
      exact⟨_,_,hr.2,by unfold Rep;exact⟨hr.1,by rw[Nat.add_assoc]⟩⟩
     ·split at h
      ·rename_i u e hsub
       cases h
       refine key _ rfl rfl fun E U w v hr=>?_
       unfold Rep at hr
       obtain⟨b,off,cs,hv,hI,hrow,hd⟩:=hr
       exact⟨b,off,hv,by unfold Rep;exact⟨b,_,_,rfl,hI,hrow.part,Ty.sub_ok _ _ _ _ _ cs hsub hd⟩⟩
      ·cases h
     ·cases h
   ·cases h
  ·cases h
 ·cases h
def semIndex(P:Program)(H:Hp)(t:TypeId)(x ix:SV):Option Eff :=
 match P.underlying t,ix with
 |some (.slice e),.int _ i=>match xT P e with
  |some n=>match x with
   |.sl ty l=>if Nat.beq ty.size n then some { need:=some (0<=i/\i<(l.length:Int)),res:=.adr ty (l.getD i.toNat ty.gB) } else none
   |.own k=>match H k with
    |some (.row _ ty l)=>if Nat.beq ty.size n then some { need:=some (0<=i/\i<(l.length:Int)),res:=.oel k ty.size i.toNat 0 } else none
    |some (.frz ty l)=>if Nat.beq ty.size n then some { need:=some (0<=i/\i<(l.length:Int)),res:=.adr ty (l.getD i.toNat ty.gB) } else none
    |some (.hole _ vs _ _)=>if Nat.beq n 1 then some { need:=some (0<=i/\i<(vs.length:Int)),res:=.oel k 1 i.toNat 0 } else none
    |_=>none
   |_=>none
  |none=>none
 |_,_=>none
theorem run_indexAt{P:Program}{t e:TypeId}{n:Nat}(hu:P.underlying t=some (.slice e)) (hn:xT P e=some n) (w:World) (b o len cap:Nat) (k:IntKind) (i:Int) (h0:0<=i) (h1:i<(len:Int)) :
  (Instr.indexAt t (.slice (some ⟨b,o,none⟩) len cap) (.int k i)).run P w = .ok (.pointer (some ⟨b,o+i.toNat*n,none⟩)) w:=by
 simp[Instr.indexAt,asIntOf,run_underlying hu,h0,h1,vE hn,y_]
theorem toNat_lt{i:Int}{n:Nat}(h0:0<=i) (h1:i<(n:Int)):i.toNat<n:=by omega
theorem semIndex_ok{P:Program}{H:Hp}{o:Oper}{t:TypeId}{x y:Operand}{a b:SV}{eff:Eff}(ho:o.op = .indexAddr t x y) (h:semIndex P H t a b=some eff):zS P o [a,b] H eff:=by
 unfold semIndex at h
 split at h
 ·rename_i e k i hu
  split at h
  ·rename_i n hn
   -- an element of a list that a slice value reads as
   have key:∀(ty:Ty)(l:List ty.den)(eff:Eff),ty.size=n->eff={ need:=some (0<=i/\i<(l.length:Int)),res:=.adr ty (l.getD i.toNat ty.gB) } ->
     (∀(w0:World)(M:Nat->Prop)(E:En)(U:Nat->Bool)(w:World)(v:Value),HSat w0 M E U H w->Rep E U w a v->wS E.I w ty.size (zG E.I w ty) l v)->zS P o [a,.int k i] H eff:=by
    intro ty l eff hsz he hsl
    subst he
    refine zS.same rfl rfl fun w0 M E U w ρv hs hr hp=>?_
    obtain⟨h0,h1⟩:=hp
    simp only[ho,Op.operands] at hr
    obtain⟨v,u,hv,hx,hy⟩:=vD hr
    simp only[List.map_cons,List.map_nil,List.cons.injEq,and_true] at hv
    unfold Rep at hy
    obtain⟨p,cap,rfl,hc,hl⟩:=hsl w0 M E U w v hs hx
    rcases hl with hl |⟨b,off,rfl,hb,hel⟩
    ·rw[hl] at h1;simp at h1;omega
    ·have hlt:=toNat_lt h0 h1
     obtain⟨cs,hrow,hd⟩:=hel i.toNat (l.getD i.toNat ty.gB) (by simp[List.getD,List.getElem?_eq_getElem hlt])
     refine⟨.pointer (some ⟨b,off+i.toNat*n,none⟩),?_,?_⟩
     ·unfold execOp
      simp only[ho,hv.1,hv.2,hy]
      simp[run_indexAt hu hn w b off l.length cap k i h0 h1]
     ·unfold Rep
      exact⟨b,_,cs,rfl,hb,by rw[<- hsz];exact hrow,hd⟩
   split at h
   ·rename_i ty l
    split at h
    ·rename_i hsz
     cases h
     refine key ty l _ (nbT hsz) rfl fun w0 M E U w v _ hx=>?_
     unfold Rep at hx
     obtain⟨u,hu',hs⟩:=hx
     cases hu'
     exact hs
    ·cases h
   ·rename_i kk
    split at h
    ·rename_i e' ty l hk
     split at h
     ·rename_i hsz
      have hsz':=nbT hsz
      cases h
      refine zS.same rfl rfl fun w0 M E U w ρv hs hr hp=>?_
      obtain⟨h0,h1⟩:=hp
      simp only[ho,Op.operands] at hr
      obtain⟨v,u,hv,hx,hy⟩:=vD hr
      simp only[List.map_cons,List.map_nil,List.cons.injEq,and_true] at hv
      unfold Rep at hx hy
      obtain⟨_,xs,hown,hfl,hsv⟩:=hs.ob kk _ hk
      rcases hsv with h2 |⟨cap,h2⟩
      ·rw[h2] at hown
       rcases hown.2 with⟨_,h3⟩ |⟨g,cap,cur,ty0,mk,h3,_⟩
       ·omega
       ·cases h3
      ·refine⟨.pointer (some ⟨E.ρ kk,0+i.toNat*n,none⟩),?_,?_⟩
       ·unfold execOp
        simp only[ho,hv.1,hv.2,hy,hx.2.1,h2]
        rw[Sem.run_bind,run_indexAt hu hn w (E.ρ kk) 0 l.length cap k i h0 h1];rfl
       ·unfold Rep
        exact⟨hx.1,by rw[hsz'];simp⟩
     ·cases h
    ·rename_i ty l hk
     split at h
     ·rename_i hsz
      cases h
      refine key ty l _ (nbT hsz) rfl fun w0 M E U w v hs hx=>?_
      unfold Rep at hx
      rw[hx.2.1]
      exact (hs.ob kk _ hk).2
     ·cases h
    ·rename_i e' vs ii xx hk
     split at h
     ·rename_i hsz
      have hsz':=nbT hsz
      subst hsz'
      cases h
      refine zS.same rfl rfl fun w0 M E U w ρv hs hr hp=>?_
      obtain⟨h0,h1⟩:=hp
      simp only[ho,Op.operands] at hr
      obtain⟨v,u,hv,hx,hy⟩:=vD hr
      simp only[List.map_cons,List.map_nil,List.cons.injEq,and_true] at hv
      unfold Rep at hx hy
      obtain⟨_,_,_,cap,cur,h2,_⟩:=hs.ob kk _ hk
      refine⟨.pointer (some ⟨E.ρ kk,0+i.toNat*1,none⟩),?_,?_⟩
      ·unfold execOp
       simp only[ho,hv.1,hv.2,hy,hx.2.1,h2]
       rw[Sem.run_bind,run_indexAt hu hn w (E.ρ kk) 0 vs.length cap k i h0 h1];rfl
      ·unfold Rep
       exact⟨hx.1,by simp⟩
     ·cases h
    ·cases h
   ·cases h
  ·cases h
 ·cases h
def lenOf(P:Program)(H:Hp)(t:TypeId)(x:SV):Option Int :=
 match P.underlying t,x with
 |some (.slice _),.sl _ l=>some (l.length:Int)
 |some (.slice _),.own k=>match H k with
  |some (.row _ _ l)=>some (l.length:Int)
  |some (.frz _ l)=>some (l.length:Int)
  |some (.hole _ vs _ _)=>some (vs.length:Int)
  |_=>none
 |some (.slice _),.nils=>some 0
 |some .string,.str s=>some (s.size:Int)
 |_,_=>none
def foldMM(f:Int->Int->Int)(k:IntKind):Int->List SV->Option Int
 |a,[]=>some a
 |a,.int j b::r=>if kB k j then foldMM f k (f a b) r else none
 |_,_=>none
def minI(a b:Int):Int:=if b<a then b else a
def maxI(a b:Int):Int:=if b>a then b else a
def semBuiltin(P:Program)(H:Hp)(b:Builtin)(ts:Array TypeId)(args:List SV):Option Eff :=
 match b,args with
 |.len,[x]=>match ts[0]? with
  |some t=>(lenOf P H t x).map fun n=>{ res:=.int .i64 n }
  |none=>none
 |.min,.int k a::r=>(foldMM minI k a r).map fun n=>{ res:=.int k n }
 |.max,.int k a::r=>(foldMM maxI k a r).map fun n=>{ res:=.int k n }
 |_,_=>none
theorem lenOf_ok{P:Program}{H:Hp}{t:TypeId}{x:SV}{n:Int}(h:lenOf P H t x=some n) {w0:World}{M:Nat->Prop}{E:En}{U:Nat->Bool}{w:World}(hs:HSat w0 M E U H w) {v:Value}(hx:Rep E U w x v) (ts:Array TypeId) (h0:ts[0]? = some t) (ty:TypeId) :
  (Builtin.len_ ts ty #[v]).run P w = .ok (.int .i64 n) w:=by
 unfold lenOf at h
 split at h
 ·rename_i hu
  cases h
  unfold Rep at hx
  obtain⟨u,hu',p,cap,rfl,_⟩:=hx
  cases hu'
  simp[Builtin.len_,h0,run_underlying hu,goInt]
 ·rename_i k hu
  unfold Rep at hx
  split at h
  ·rename_i hk
   cases h
   obtain⟨_,xs,hown,_,hsv⟩:=hs.ob k _ hk
   rw[hx.2.1]
   rcases hsv with h2 |⟨cap,h2⟩
   ·rw[h2] at hown ⊢
    rcases hown.2 with⟨_,h3⟩ |⟨g,cap,cur,ty0,mk,h3,_⟩
    ·simp[Builtin.len_,h0,run_underlying hu,goInt,h3]
    ·cases h3
   ·rw[h2]
    simp[Builtin.len_,h0,run_underlying hu,goInt]
  ·rename_i hk
   cases h
   obtain⟨_,p,cap,h2,_⟩:=hs.ob k _ hk
   rw[hx.2.1,h2]
   simp[Builtin.len_,h0,run_underlying hu,goInt]
  ·rename_i hk
   cases h
   obtain⟨_,_,_,cap,cur,h2,_⟩:=hs.ob k _ hk
   rw[hx.2.1,h2]
   simp[Builtin.len_,h0,run_underlying hu,goInt]
  ·cases h
 ·rename_i hu
  cases h
  unfold Rep at hx
  subst hx
  simp[Builtin.len_,h0,run_underlying hu,goInt]
 ·rename_i hu
  cases h
  unfold Rep at hx
  subst hx
  simp[Builtin.len_,h0,run_underlying hu,goInt]
 ·cases h
theorem foldMM_ok{P:Program}{f:Int->Int->Int}{g:Value->Value->Sem Value}(hg:∀k j a b,g (.int k a) (.int j b)=pure (.int k (f a b))) {E:En}{U:Nat->Bool}{w:World} :
  ∀(r:List SV)(k:IntKind)(a n:Int)(vs:List Value),foldMM f k a r=some n->zA E U w r vs->(vs.foldlM g (.int k a)).run P w = .ok (.int k n) w
 | [],k,a,n,vs,h,hr=>by
  unfold zA at hr
  subst hr
  cases h
  simp
 |x::r,k,a,n,vs,h,hr=>by
  unfold zA at hr
  obtain⟨v,us,rfl,h1,h2⟩:=hr
  cases x<;>simp only[foldMM] at h<;>try (cases h;done)
  split at h
  ·unfold Rep at h1
   subst h1
   rw[List.foldlM_cons,hg]
   simpa using foldMM_ok hg r k _ n us h h2
  ·cases h
theorem semBuiltin_ok{P:Program}{H:Hp}{o:Oper}{b:Builtin}{xs:Array Operand}{ts:Array TypeId}{args:List SV}{eff:Eff}(ho:o.op = .call { callee:=.builtin b,args:=xs,argTypes:=ts }) (h:semBuiltin P H b ts args=some eff):zS P o args H eff:=by
 have run:∀(ρv:Operand->Value)(w:World)(v:Value),(∀cs,(builtin b ts o.type cs (xs.map ρv)).run P w = .ok (.value v) w)->(execOp ρv o).run P w = .ok (.value v) w:=by
  intro ρv w v hb
  unfold execOp
  simp[ho,resolve,invoke,hb]
 have ops:∀(ρv:Operand->Value),o.op.operands.toList.map ρv=(xs.map ρv).toList:=by
  intro ρv
  simp[ho,Op.operands,Call.operands]
 unfold semBuiltin at h
 split at h
 ·rename_i x
  split at h
  ·rename_i t ht
   simp only[Option.map_eq_some_iff] at h
   obtain⟨n,hn,rfl⟩:=h
   refine zS.same rfl rfl fun w0 M E U w ρv hs hr hp=>?_
   rw[ops] at hr
   obtain⟨v,hv,hx⟩:=pT hr
   refine⟨_,run ρv w _ fun cs=>?_,by unfold Rep;rfl⟩
   have hxs:xs.map ρv = #[v]:=Array.ext' (by rw[hv])
   have:=lenOf_ok hn hs hx ts ht o.type
   simp[builtin,hxs,this]
  ·cases h
 ·rename_i k a r
  simp only[Option.map_eq_some_iff] at h
  obtain⟨n,hn,rfl⟩:=h
  refine zS.same rfl rfl fun w0 M E U w ρv hs hr hp=>?_
  rw[ops] at hr
  unfold zA at hr
  obtain⟨v,us,hv,h1,h2⟩:=hr
  unfold Rep at h1
  subst h1
  refine⟨_,run ρv w _ fun cs=>?_,by unfold Rep;rfl⟩
  have:=foldMM_ok (P:=P) (g:=Builtin.min2) (fun _ _ _ _=>rfl) r k a n us hn h2
  have hxs:xs.map ρv=(Value.int k a::us).toArray:=Array.ext' (by rw[hv])
  simp[builtin,Builtin.min_,hxs,this]
 ·rename_i k a r
  simp only[Option.map_eq_some_iff] at h
  obtain⟨n,hn,rfl⟩:=h
  refine zS.same rfl rfl fun w0 M E U w ρv hs hr hp=>?_
  rw[ops] at hr
  unfold zA at hr
  obtain⟨v,us,hv,h1,h2⟩:=hr
  unfold Rep at h1
  subst h1
  refine⟨_,run ρv w _ fun cs=>?_,by unfold Rep;rfl⟩
  have:=foldMM_ok (P:=P) (g:=Builtin.max2) (fun _ _ _ _=>rfl) r k a n us hn h2
  have hxs:xs.map ρv=(Value.int k a::us).toArray:=Array.ext' (by rw[hv])
  simp[builtin,Builtin.max_,hxs,this]
 ·cases h
def semPart(P:Program)(t:TypeId)(x:SV)(f:Nat):Option Eff :=
 match P.underlying t,x with
 |some (.struct fs),.agg cs=>match fs[f]? with
  |some fd=>(partSV P fd.type cs fd.offset).map fun s=>{ res:=s }
  |none=>none
 |_,_=>none
theorem semPart_ok{P:Program}{H:Hp}{o:Oper}{t:TypeId}{x:Operand}{f:Nat}{a:SV}{eff:Eff}(ho:o.op = .field t x f) (h:semPart P t a f=some eff):zS P o [a] H eff:=by
 unfold semPart at h
 split at h
 ·rename_i fs cs hu
  split at h
  ·rename_i fd hfd
   simp only[Option.map_eq_some_iff] at h
   obtain⟨s,hp,rfl⟩:=h
   refine zS.same rfl rfl fun w0 M E U w ρv hs hr _=>?_
   simp only[ho,Op.operands] at hr
   obtain⟨v,hv,hx⟩:=pT hr
   simp only[List.map_cons,List.map_nil,List.cons.injEq,and_true] at hv
   unfold Rep at hx
   obtain⟨vs,rfl,hl⟩:=hx
   obtain⟨u,hrun,hrep⟩:=run_part hp hl
   refine⟨u,?_,hrep⟩
   unfold execOp
   simp only[ho,hv]
   simp[Instr.field,run_underlying hu,hfd,asAgg,hrun]
  ·cases h
 ·cases h
def listOf(H:Hp):SV->Option ((t:Ty) × List t.den)
 |.sl t l=>some ⟨t,l⟩
 |.own k=>match H k with
  |some (.row _ t l)=>some ⟨t,l⟩
  |some (.frz t l)=>some ⟨t,l⟩
  |_=>none
 |_=>none
def semNilCmp(P:Program)(H:Hp)(op:BinOp)(t:TypeId)(x:SV):Option Eff :=
 match P.underlying t,listOf H x with
 |some (.slice _),some ⟨_,l⟩=>match op with
  |.eql=>some { need:=some (l≠[]),res:=.bool false }
  |.neq=>some { need:=some (l≠[]),res:=.bool true }
  |_=>none
 |_,_=>none
def semOslCmp(P:Program)(op:BinOp)(t:TypeId):SV->Option Eff
 |.osl _ l=>match P.underlying t with
  |some (.slice _)=>match op with
   |.eql=>some { res:=.bool l.isEmpty }
   |.neq=>some { res:=.bool !l.isEmpty }
   |_=>none
  |_=>none
 |.nsl _ _ b=>match P.underlying t with
  |some (.slice _)=>match op with
   |.eql=>some { res:=.bool b }
   |.neq=>some { res:=.bool !b }
   |_=>none
  |_=>none
 |_=>none
def ptrNil:SV->Option Bool
 |.ptr _ _=>some false
 |.oel _ _ _ _=>some false
 |.adr _ _=>some false
 |.nilp=>some true
 |_=>none
def semPtrCmp(P:Program)(op:BinOp)(t:TypeId)(x:SV):Option Eff :=
 match P.underlying t,ptrNil x with
 |some (.pointer _),some r=>match op with
  |.eql=>some { res:=.bool r }
  |.neq=>some { res:=.bool !r }
  |_=>none
 |_,_=>none
theorem ptrNil_ok{E:En}{U:Nat->Bool}{w:World}{x:SV}{v:Value}{r:Bool}(h:ptrNil x=some r) (hx:Rep E U w x v):∃p,v = .pointer p/\r=p.isNone:=by
 unfold ptrNil at h
 split at h<;>try (cases h;done)
 ·cases h;unfold Rep at hx;exact⟨_,hx.2,rfl⟩
 ·cases h;unfold Rep at hx;exact⟨_,hx.2,rfl⟩
 ·cases h;unfold Rep at hx;obtain⟨b,o,cs,e,_⟩:=hx;exact⟨_,e,rfl⟩
 ·cases h;unfold Rep at hx;exact⟨_,hx,rfl⟩
theorem semPtrCmp_ok{P:Program}{H:Hp}{op:BinOp}{t t' : TypeId}{a:SV}{eff:Eff}{x y:Operand}{o:Oper}(ho:o.op = .binOp op t x y t') (h:semPtrCmp P op t a=some eff):zS P o [a,.nilp] H eff:=by
 unfold semPtrCmp at h
 split at h<;>try (cases h;done)
 rename_i el r hu hr0
 have key:∀(e:Eff),e.upd=[]->e.news=[]->((op = .eql/\e.res = .bool r)\/(op = .neq/\e.res = .bool !r))->zS P o [a,.nilp] H e:=by
  intro e h1 h2 h4
  refine zS.same h2 h1 fun w0 M E U w ρv hs hr hp=>?_
  simp only[ho,Op.operands] at hr
  obtain⟨v,u,hv,hx,hy⟩:=vD hr
  simp only[List.map_cons,List.map_nil,List.cons.injEq,and_true] at hv
  unfold Rep at hy
  subst hy
  obtain⟨p,rfl,hp⟩:=ptrNil_ok hr0 hx
  have hex:(Op.equalIn 10000 t (.pointer p) (.pointer none)).run P w = .ok r w/\(eqGuard op t x y (ρv x) (ρv y)).run P w = .ok () w:=by
   refine⟨?_,?_⟩
   ·rw[show (10000:Nat)=9999+1 from rfl]
    generalize 9999=D
    cases p<;>simp[Op.equalIn,run_underlying hu,hp]
   ·rw[hv.1,eqGuard_at_pointer];rfl
  rcases h4 with⟨rfl,he⟩ |⟨rfl,he⟩
  ·refine⟨.bool r,qA ho ρv w hex.2 ?_,by rw[he];unfold Rep;rfl⟩
   rw[hv.1,hv.2]
   exact (fE hex.1).1
  ·refine⟨.bool !r,qA ho ρv w hex.2 ?_,by rw[he];unfold Rep;rfl⟩
   rw[hv.1,hv.2]
   exact (fE hex.1).2
 split at h
 ·cases h;exact key _ rfl rfl (.inl ⟨rfl,rfl⟩)
 ·cases h;exact key _ rfl rfl (.inr ⟨rfl,rfl⟩)
 ·cases h
def semBinH(P:Program)(H:Hp)(op:BinOp)(t:TypeId)(x y:SV):Option Eff :=
 match semBin P op t x y with
 |some e=>some e
 |none=>match y with
  |.nils=>match semOslCmp P op t x with
   |some e=>some e
   |none=>semNilCmp P H op t x
  |.nilp=>semPtrCmp P op t x
  |_=>none
theorem listOf_ok{w0:World}{M:Nat->Prop}{E:En}{U:Nat->Bool}{H:Hp}{w:World}(hs:HSat w0 M E U H w) {x:SV}{v:Value}(hx:Rep E U w x v) {t:Ty}{l:List t.den}(h:listOf H x=some ⟨t,l⟩) (hl:l≠[]) :
  ∃a n c,v = .slice (some a) n c:=by
 have key:∀{I:Nat->Prop}{v:Value},wS I w t.size (zG I w t) l v->∃a n c,v = .slice (some a) n c:=by
  rintro I v ⟨p,cap,rfl,_,hr⟩
  rcases hr with hr |⟨b,o,rfl,_⟩
  ·exact absurd hr hl
  ·exact⟨_,_,_,rfl⟩
 unfold listOf at h
 split at h
 ·cases h
  unfold Rep at hx
  obtain⟨u,hu,hr⟩:=hx
  cases hu
  exact key hr
 ·rename_i k
  unfold Rep at hx
  split at h
  ·rename_i hk
   cases h
   obtain⟨_,xs,hown,_,hsv⟩:=hs.ob k _ hk
   rw[hx.2.1]
   rcases hsv with h2 |⟨cap,h2⟩
   ·rw[h2] at hown
    rcases hown.2 with⟨_,h3⟩ |⟨g,cap,cur,ty0,mk,h3,_⟩
    ·exact absurd (List.eq_nil_of_length_eq_zero h3) hl
    ·cases h3
   ·exact⟨_,_,_,h2⟩
  ·rename_i hk
   cases h
   rw[hx.2.1]
   exact key (hs.ob k _ hk).2
  ·cases h
 ·cases h
theorem semOslCmp_ok{P:Program}{H:Hp}{op:BinOp}{t t' : TypeId}{a:SV}{eff:Eff}{x y:Operand}{o:Oper}(ho:o.op = .binOp op t x y t') (h:semOslCmp P op t a=some eff):zS P o [a,.nils] H eff:=by
 unfold semOslCmp at h
 split at h<;>try (cases h;done)
 ·rename_i ty l
  split at h<;>try (cases h;done)
  rename_i el hu
  have key:∀(r:Bool)(e:Eff),e.upd=[]->e.news=[]->((op = .eql/\r=l.isEmpty/\e.res = .bool r)\/(op = .neq/\r=l.isEmpty/\e.res = .bool !r))->zS P o [.osl ty l,.nils] H e:=by
   intro r e h1 h2 h4
   refine zS.same h2 h1 fun w0 M E U w ρv hs hr hp=>?_
   simp only[ho,Op.operands] at hr
   obtain⟨v,u,hv,hx,hy⟩:=vD hr
   simp only[List.map_cons,List.map_nil,List.cons.injEq,and_true] at hv
   unfold Rep at hx hy
   subst hy
   obtain⟨⟨v',ev,hsl⟩,hnil⟩:=hx
   cases ev
   obtain⟨p,cap,rfl,hcap,hrow⟩:=hsl
   have hex:(Op.equalIn 10000 t (.slice p l.length cap) (.slice none 0 0)).run P w = .ok l.isEmpty w/\(eqGuard op t x y (ρv x) (ρv y)).run P w = .ok () w:=by
    cases l with
    |nil=>
     have e0:=hnil rfl
     rw[e0]
     refine⟨?_,by rw[hv.1,e0,eqGuard_at_slice];rfl⟩
     rw[show (10000:Nat)=9999+1 from rfl]
     generalize 9999=D
     simp[Op.equalIn,run_underlying hu]
    |cons d l=>
     rcases hrow with hr |⟨b,o,rfl,_⟩
     ·cases hr
     ·refine⟨?_,by rw[hv.1,eqGuard_at_slice];rfl⟩
      rw[show (10000:Nat)=9999+1 from rfl]
      generalize 9999=D
      simp[Op.equalIn,run_underlying hu]
   rcases h4 with⟨rfl,hr,he⟩ |⟨rfl,hr,he⟩
   ·refine⟨.bool r,qA ho ρv w hex.2 ?_,by rw[he];unfold Rep;rfl⟩
    rw[hv.1,hv.2,hr]
    exact (fE hex.1).1
   ·refine⟨.bool !r,qA ho ρv w hex.2 ?_,by rw[he];unfold Rep;rfl⟩
    rw[hv.1,hv.2,hr]
    exact (fE hex.1).2
  split at h
  ·cases h;exact key _ _ rfl rfl (.inl ⟨rfl,rfl,rfl⟩)
  ·cases h;exact key l.isEmpty _ rfl rfl (.inr ⟨rfl,rfl,rfl⟩)
  ·cases h
 ·rename_i ty l b
  split at h<;>try (cases h;done)
  rename_i el hu
  have key:∀(r:Bool)(e:Eff),e.upd=[]->e.news=[]->((op = .eql/\r=b/\e.res = .bool r)\/(op = .neq/\r=b/\e.res = .bool !r))->zS P o [.nsl ty l b,.nils] H e:=by
   intro r e h1 h2 h4
   refine zS.same h2 h1 fun w0 M E U w ρv hs hr hp=>?_
   simp only[ho,Op.operands] at hr
   obtain⟨v,u,hv,hx,hy⟩:=vD hr
   simp only[List.map_cons,List.map_nil,List.cons.injEq,and_true] at hv
   unfold Rep at hx hy
   subst hy
   obtain⟨⟨v',ev,hsl⟩,hnil⟩:=hx
   cases ev
   obtain⟨p,cap,rfl,hcap,hrow⟩:=hsl
   have hex:(Op.equalIn 10000 t (.slice p l.length cap) (.slice none 0 0)).run P w = .ok b w/\(eqGuard op t x y (ρv x) (ρv y)).run P w = .ok () w:=by
    cases p with
    |none=>
     have hl:l=[]:=by
      rcases hrow with hr |⟨b,o,h,_⟩
      ·exact hr
      ·cases h
     subst hl
     have hb:b=true:=hnil.2 ⟨_,_,rfl⟩
     subst hb
     refine⟨?_,by rw[hv.1,eqGuard_at_slice];rfl⟩
     rw[show (10000:Nat)=9999+1 from rfl]
     generalize 9999=D
     simp[Op.equalIn,run_underlying hu]
    |some a=>
     have hb:b=false:=by
      cases b with
      |false=>rfl
      |true=>
       obtain⟨n,c,h⟩:=hnil.1 rfl
       cases h
     subst hb
     refine⟨?_,by rw[hv.1,eqGuard_at_slice];rfl⟩
     rw[show (10000:Nat)=9999+1 from rfl]
     generalize 9999=D
     simp[Op.equalIn,run_underlying hu]
   rcases h4 with⟨rfl,hr,he⟩ |⟨rfl,hr,he⟩
   ·refine⟨.bool r,qA ho ρv w hex.2 ?_,by rw[he];unfold Rep;rfl⟩
    rw[hv.1,hv.2,hr]
    exact (fE hex.1).1
   ·refine⟨.bool !r,qA ho ρv w hex.2 ?_,by rw[he];unfold Rep;rfl⟩
    rw[hv.1,hv.2,hr]
    exact (fE hex.1).2
  split at h
  ·cases h;exact key _ _ rfl rfl (.inl ⟨rfl,rfl,rfl⟩)
  ·cases h;exact key b _ rfl rfl (.inr ⟨rfl,rfl,rfl⟩)
  ·cases h
theorem semBinH_ok{P:Program}{H:Hp}{op:BinOp}{t t' : TypeId}{a b:SV}{eff:Eff}{x y:Operand}{o:Oper}(ho:o.op = .binOp op t x y t') (h:semBinH P H op t a b=some eff):zS P o [a,b] H eff:=by
 unfold semBinH at h
 split at h
 ·rename_i e he
  cases h
  exact semBin_ok ho he
 ·split at h<;>try (cases h;done)
  ·split at h
   ·rename_i e he
    cases h
    exact semOslCmp_ok ho he
   unfold semNilCmp at h
   split at h<;>try (cases h;done)
   rename_i el ty l hu hl
   have key:∀(r:Bool)(e:Eff),e.upd=[]->e.news=[]->e.need=some (l≠[])->((op = .eql/\r=false/\e.res = .bool false)\/(op = .neq/\r=true/\e.res = .bool true))->zS P o [a,.nils] H e:=by
    intro r e h1 h2 h3 h4
    refine zS.same h2 h1 fun w0 M E U w ρv hs hr hp=>?_
    simp only[ho,Op.operands] at hr
    obtain⟨v,u,hv,hx,hy⟩:=vD hr
    simp only[List.map_cons,List.map_nil,List.cons.injEq,and_true] at hv
    have hne:l≠[]:=by unfold Eff.nd at hp;rw[h3] at hp;exact hp
    obtain⟨ad,n,c,rfl⟩:=listOf_ok hs hx hl hne
    unfold Rep at hy
    subst hy
    have heq:(Op.equalIn 10000 t (.slice (some ad) n c) (.slice none 0 0)).run P w = .ok false w:=by
     rw[show (10000:Nat)=9999+1 from rfl]
     generalize 9999=D
     simp[Op.equalIn,run_underlying hu]
    have hg:(eqGuard op t x y (ρv x) (ρv y)).run P w = .ok () w:=by
     rw[hv.1,eqGuard_at_slice];rfl
    rcases h4 with⟨rfl,rfl,he⟩ |⟨rfl,rfl,he⟩
    ·refine⟨.bool false,qA ho ρv w hg ?_,by rw[he];unfold Rep;rfl⟩
     rw[hv.1,hv.2]
     exact (fE heq).1
    ·refine⟨.bool true,qA ho ρv w hg ?_,by rw[he];unfold Rep;rfl⟩
     rw[hv.1,hv.2]
     exact (fE heq).2
   split at h
   ·cases h;exact key false _ rfl rfl rfl (.inl ⟨rfl,rfl,rfl⟩)
   ·cases h;exact key true _ rfl rfl rfl (.inr ⟨rfl,rfl,rfl⟩)
   ·cases h
  ·exact semPtrCmp_ok ho h
end Go.Sx
namespace Go.Sx
open Go.RowKit
def fillSV(place:Nat->Option (Nat × Nat))(cells:List SV):List (Nat × SV)->Option (List SV)
 | []=>some cells
 |(i,v)::rest=>
  match place i with
  |none=>none
  |some (off,size)=>
   match xX v with
   |none=>none
   |some c=>if Nat.beq c.length size&&Nat.ble (off+c.length) cells.length then fillSV place (cells.take off++c++cells.drop (off+c.length)) rest else none
theorem foldl_fill(off:Nat):∀(l:List Value)(s:Nat)(cs:List Value),off+s+l.length<=cs.length ->
  ((l.zipIdx s).foldl (fun(cs:Array Value) x=>cs.setIfInBounds (off+x.2) x.1) cs.toArray)=(cs.take (off+s)++l++cs.drop (off+s+l.length)).toArray
 | [],s,cs,_=>by simp
 |v::l,s,cs,h=>by
  simp only[List.length_cons] at h
  rw[List.zipIdx_cons,List.foldl_cons]
  show List.foldl _ (cs.toArray.setIfInBounds (off+s) v) _=_
  rw[List.setIfInBounds_toArray]
  rw[foldl_fill off l (s+1) (cs.set (off+s) v) (by simp;omega)]
  congr 1
  have:=list_seg_step cs (off+s) v l (by first |omega |(simp only[List.length_cons];omega))
  simpa[Nat.add_assoc] using this
theorem fill_ok{E:En}{U:Nat->Bool}{w:World}(place:Nat->Option (Nat × Nat)):∀(parts:List (Nat × SV))(cells out:List SV)(cs:List Value)(vs:List (Nat × Value)),
  fillSV place cells parts=some out->zA E U w cells cs->vs.map (·.1)=parts.map (·.1)->zA E U w (parts.map (·.2)) (vs.map (·.2)) ->
  ∃res,Instr.fill place cs.toArray vs=some (List.toArray res)/\zA E U w out res
 | [],cells,out,cs,vs,h,hr,h1,_=>by
  cases vs with
  |nil=>simp only[fillSV,Option.some.injEq] at h;subst h;exact⟨cs,rfl,hr⟩
  |cons _ _=>simp at h1
 |(i,x)::parts,cells,out,cs,vs,h,hr,h1,h2=>by
  cases vs with
  |nil=>simp at h1
  |cons y vs=>
   obtain⟨j,v⟩:=y
   simp only[List.map_cons,List.cons.injEq] at h1 h2
   obtain⟨rfl,h1⟩:=h1
   unfold zA at h2
   obtain⟨v',r,hvr,h3,h4⟩:=h2
   cases hvr
   simp only[fillSV] at h
   split at h
   ·cases h
   ·rename_i off size hp
    split at h
    ·cases h
    ·rename_i c hc
     split at h
     ·rename_i hcond
      simp only[Bool.and_eq_true,Nat.ble_eq] at hcond
      have hlen:=nbT hcond.1
      have hrc:=yB hc h3
      have hl1:=hrc.length
      have hl2:=hr.length
      rw[Array.length_toList] at hl1
      obtain⟨res,hf,hres⟩:=fill_ok place parts _ out (cs.take off++v.cells.toList++cs.drop (off+c.length)) vs h (((hr.take off).append hrc).append (hr.drop (off+c.length))) h1 h4
      refine⟨res,?_,hres⟩
      simp only[Instr.fill,hp]
      rw[if_neg (by simp only[List.size_toArray,ne_eq,Bool.or_eq_true,decide_eq_true_eq];omega)]
      rw[<- hf]
      congr 1
      rw[<- Array.foldl_toList]
      have:=foldl_fill off v.cells.toList 0 cs (by simp;omega)
      simp only[Nat.add_zero,Array.length_toList] at this
      rw[hl1] at this
      rw[<- this]
      simp
     ·cases h
def semBuild(P:Program)(t:TypeId)(parts:List Nat)(args:List SV):Option Eff :=
 match P.info? t,P.underlying t with
 |some it,some (.struct fs)=>match it.zero,fs.toList.mapM (fun f=>(P.info? f.type).map fun i=>(f.offset,i.size)) with
  |some z,some pl=>match xX (svOf z) with
   |some c=>(fillSV (pl.toArray[·]?) c (parts.zip args)).map fun out=>{ res:=.agg out }
   |none=>none
  |_,_=>none
 |some it,some (.array _ e)=>match it.zero,P.info? e with
  |some z,some ie=>match xX (svOf z) with
   |some c=>(fillSV (fun i=>some (i*ie.size,ie.size)) c (parts.zip args)).map fun out=>{ res:=.agg out }
   |none=>none
  |_,_=>none
 |_,_=>none
theorem zip_parts{parts:List (Nat × Operand)}{ρv:Operand->Value}{E:En}{U:Nat->Bool}{w:World}{args:List SV}(hr:zA E U w args ((parts.map (·.2)).map ρv)) :
  ((parts.map fun x=>(x.1,ρv x.2)).map (·.1))=((parts.map (·.1)).zip args).map (·.1) /\
  zA E U w (((parts.map (·.1)).zip args).map (·.2)) ((parts.map fun x=>(x.1,ρv x.2)).map (·.2)):=by
 have hl:=hr.length
 simp only[List.length_map] at hl
 constructor
 ·rw[List.map_map,List.map_fst_zip (by simp;omega)]
  rfl
 ·rw[List.map_map,List.map_snd_zip (by simp;omega)]
  rw[List.map_map] at hr
  exact hr
theorem semBuild_ok{P:Program}{H:Hp}{o:Oper}{t:TypeId}{parts:Array (Nat × Operand)}{args:List SV}{eff:Eff}(ho:o.op = .build t parts) (h:semBuild P t (parts.toList.map (·.1)) args=some eff):zS P o args H eff:=by
 have key:∀(out:List SV)(eff:Eff),eff={ res:=.agg out }->(∀(E:En)(U:Nat->Bool)(w:World)(vs:List (Nat × Value)),vs.map (·.1)=((parts.toList.map (·.1)).zip args).map (·.1) ->
   zA E U w (((parts.toList.map (·.1)).zip args).map (·.2)) (vs.map (·.2))->∃res,P.built t vs=some (List.toArray res)/\zA E U w out res)->zS P o args H eff:=by
  intro out eff he hb
  subst he
  refine zS.same rfl rfl fun w0 M E U w ρv hs hr hp=>?_
  have hr' : zA E U w args ((parts.toList.map (·.2)).map ρv):=by simpa[ho,Op.operands] using hr
  obtain⟨h1,h2⟩:=zip_parts hr'
  obtain⟨res,hbu,hres⟩:=hb E U w _ h1 h2
  refine⟨.agg res.toArray,?_,by unfold Rep;exact⟨res,rfl,hres⟩⟩
  have hrun:=run_build (P:=P) w t (parts.map fun x=>(x.1,ρv x.2)) res.toArray (by simpa using hbu)
  unfold execOp
  simp only[ho]
  simp[hrun]
 unfold semBuild at h
 split at h
 ·rename_i it fs hi hu
  split at h
  ·rename_i z pl hz hpl
   split at h
   ·rename_i c hc
    simp only[Option.map_eq_some_iff] at h
    obtain⟨out,hf,he⟩:=h
    refine key out eff he.symm fun E U w vs h1 h2=>?_
    obtain⟨res,hfill,hres⟩:=fill_ok _ _ c out z.cells.toList vs hf (yB hc (svOf_ok E U w z)) h1 h2
    exact⟨res,by simp only[Program.built,hi,hu,hz,hpl];simpa using hfill,hres⟩
   ·cases h
  ·cases h
 ·rename_i it n e hi hu
  split at h
  ·rename_i z ie hz hie
   split at h
   ·rename_i c hc
    simp only[Option.map_eq_some_iff] at h
    obtain⟨out,hf,he⟩:=h
    refine key out eff he.symm fun E U w vs h1 h2=>?_
    obtain⟨res,hfill,hres⟩:=fill_ok _ _ c out z.cells.toList vs hf (yB hc (svOf_ok E U w z)) h1 h2
    exact⟨res,by simp only[Program.built,hi,hu,hz,hie];simpa using hfill,hres⟩
   ·cases h
  ·cases h
 ·cases h
def ofCellsN(t:Ty):Nat->List SV->Option (List t.den)
 |0,[]=>some []
 |0,_=>none
 |n+1,cs=>match t.vO cs with
  |some (d,r)=>match ofCellsN t n r with
   |some l=>some (d::l)
   |none=>none
  |none=>none
theorem ofCellsN_ok{E:En}{U:Nat->Bool}{w:World}{t:Ty}:∀(n:Nat)(cs:List SV)(l:List t.den)(vs:List Value),ofCellsN t n cs=some l->zA E U w cs vs->zZ E.I w t l vs/\l.length=n
 |0,cs,l,vs,h,hr=>by
  cases cs with
  |nil=>cases h;unfold zA at hr;exact⟨hr,rfl⟩
  |cons _ _=>cases h
 |n+1,cs,l,vs,h,hr=>by
  simp only[ofCellsN] at h
  split at h
  ·rename_i d r hd
   split at h
   ·rename_i l' hl
    cases h
    obtain⟨x,y,rfl,h1,h2⟩:=Ty.wH t cs vs d r hd hr
    obtain⟨h3,h4⟩:=ofCellsN_ok n r l' y hl h2
    exact⟨⟨x,y,rfl,h1,h3⟩,by simp[h4]⟩
   ·cases h
  ·cases h
def tyOf(P:Program):Nat->TypeId->Option Ty
 |0,_=>none
 |d+1,t=>match P.underlying t with
  |some (.int k)=>some (.int k)
  |some .bool=>some .bool
  |some .string=>some .str
  |some (.slice e)=>(tyOf P d e).map .sl
  |some (.struct fs)=>tys (tyOf P d) (fs.toList.map (·.type))
  |some (.array n e)=>(tyOf P d e).map (tyN n)
  |_=>none
where
 tyN:Nat->Ty->Ty
  |0,_=>.unit
  |1,t=>t
  |n+2,t=>.pair t (tyN (n+1) t)
 tys (f:TypeId->Option Ty):List TypeId->Option Ty
  | []=>some .unit
  | [t]=>f t
  |t::r=>match f t,tys f r with
   |some a,some b=>some (.pair a b)
   |_,_=>none
def En.setRow(E:En)(id b:Nat)(v:Value):En:={ E with ρ:=fun k=>if k=id then b else E.ρ k,sv:=fun k=>if k=id then v else E.sv k }
theorem qM{w0:World}{M:Nat->Prop}{E:En}{U:Nat->Bool}{H:Hp}{w w' : World}(_hs:HSat w0 M E U H w) {id:Nat}(hid:U id=false) (g:∀b,E.I b->w'.heap[b]? = w.heap[b]?) (b:Nat) (v:Value):En.Le U (apU U [id]) E (E.setRow id b v) w w':=by
 have hne:∀k,U k=true->k≠id:=fun k hk e=>by rw[e,hid] at hk;cases hk
 exact⟨fun k hk=>by rw[gD,hk];rfl,fun k hk=>by simp[En.setRow,hne k hk],fun k hk=>by simp[En.setRow,hne k hk],fun _ h=>h,g,fun _ _=>rfl⟩
def semLit(P:Program)(id:Nat)(t:TypeId)(len:Nat)(parts:List Nat)(args:List SV):Option Eff :=
 match P.underlying t with
 |some (.slice e)=>match P.info? e,tyOf P 9 e with
  |some ie,some ty=>match ie.zero with
   |some z=>match xX (svOf z) with
    |some c=>if Nat.beq ie.size ty.size&&Nat.ble (len*ie.size) 16777216&&Nat.ble len 16777216&&Nat.ble 1 c.length then
      if Nat.beq (len*ie.size) 0 then
       if Nat.beq len 0&&parts.isEmpty then some { res:=.own id,upd:=[(id,some (.row e ty []))],news:=[id] } else none
      else match fillSV (fun i=>some (i*ie.size,ie.size)) ((List.range (len*ie.size)).map fun i=>c.getD (i % c.length) .any) (parts.zip args) with
       |some out=>match ofCellsN ty len out with
        |some l=>some { res:=.own id,upd:=[(id,some (.row e ty l))],news:=[id] }
        |none=>none
       |none=>none
     else none
    |none=>none
   |none=>none
  |_,_=>none
 |_=>none
theorem HSat.addRow{w0:World}{M:Nat->Prop}{E:En}{U:Nat->Bool}{H:Hp}{w:World}(hs:HSat w0 M E U H w) {id:Nat}(hid:U id=false) {e:TypeId}{t:Ty}{l:List t.den}{xs:List Value}{cur:Array Value}(cap:Nat)
  (hf:zZ E.I w t l xs) (hcap:l.length<=cap) (hm:cap<=maxLen) (hsz:cur.size=cap*t.size) (htk:cur.toList.take (l.length*t.size)=xs) (w1:World) (hw1:w1=w\/w1=w.drew) :
  En.Le U (apU U [id]) E (E.setRow id w.heap.size (.slice (some ⟨w.heap.size,0,none⟩) l.length cap)) w (w1.alloc (.cells cur e)) /\
  HSat w0 M (E.setRow id w.heap.size (.slice (some ⟨w.heap.size,0,none⟩) l.length cap)) (apU U [id]) (apH H [(id,some (.row e t l))]) (w1.alloc (.cells cur e)):=by
 have g:Grows w (w1.alloc (.cells cur e)):=by
  rcases hw1 with h |h<;>rw[h]
  ·exact Grows.alloc w _
  ·exact⟨rfl,rfl,rfl,by simp,Nat.le_succ _,fun b hb=>Below.heap_alloc w.drew _ b hb⟩
 have hnew:(w1.alloc (.cells cur e)).heap[w.heap.size]? = some (.cells cur e (0,0)):=by
  rcases hw1 with h |h<;>rw[h]
  ·exact heap_alloc_new w _
  ·exact heap_alloc_new w.drew _
 have hle:=qM hs hid (w':=w1.alloc (.cells cur e)) (fun b hb=>g.block b (hs.lt b hb)) w.heap.size (.slice (some ⟨w.heap.size,0,none⟩) l.length cap)
 refine⟨hle,hs.add hid g rfl hle (fun _=>by simp[En.setRow]) ⟨xs,ownR_of ⟨hf.length,.inr ⟨w.heap.size,cap,cur,by simp[En.setRow],Nat.zero_le _,hnew,hcap,hm,hsz,htk⟩⟩,zZ.mono hle.imm hle.heap _ _ _ hf,.inr ⟨cap,by simp[En.setRow]⟩⟩⟩
theorem range_zero{E:En}{U:Nat->Bool}{w:World}{c:List SV}{z:Array Value}(hr:zA E U w c z.toList) (hpos:0<c.length):∀(is:List Nat),zA E U w (is.map fun i=>c.getD (i % c.length) .any) (is.map fun i=>z[i % z.size]!)
 | []=>zA.nil
 |i::is=>by
  have hl:=hr.length
  rw[Array.length_toList] at hl
  refine zA.cons ?_ (range_zero hr hpos is)
  have hlt:i % c.length<c.length:=Nat.mod_lt _ hpos
  obtain⟨v,hv,hrep⟩:=hr.get (i:=i % c.length) (c:=c[i % c.length]) (List.getElem?_eq_getElem hlt)
  have h1:c.getD (i % c.length) .any=c[i % c.length]:=by simp[List.getD,List.getElem?_eq_getElem hlt]
  show Rep E U w (c.getD (i % c.length) .any) (z[i % z.size]!)
  rw[h1,hl]
  have h2:z[i % c.length]! = v:=by
   rw[Array.getElem?_toList] at hv
   rw[getElem!_def,hv]
  rw[h2]
  exact hrep
theorem semLit_ok{P:Program}{H:Hp}{o:Oper}{t:TypeId}{len id:Nat}{parts:Array (Nat × Operand)}{args:List SV}{eff:Eff}(ho:o.op = .buildSlice t len parts) (h:semLit P id t len (parts.toList.map (·.1)) args=some eff):zS P o args H eff:=by
 unfold semLit at h
 split at h
 ·rename_i e hu
  split at h
  ·rename_i ie ty hie hty
   split at h
   ·rename_i z hz
    split at h
    ·rename_i c hc
     split at h
     ·rename_i hcond
      simp only[Bool.and_eq_true,Nat.ble_eq] at hcond
      obtain⟨hcond,hcpos⟩:=hcond
      split at h
      ·rename_i hzero
       have hzero':=nbT hzero
       split at h
       ·rename_i hl0
        simp only[Bool.and_eq_true,List.isEmpty_iff] at hl0
        have hl0':=nbT hl0.1
        have hp0:parts = #[]:=by
         have:=hl0.2
         simpa using this
        subst hl0'
        subst hp0
        cases h
        intro w0 M E U w ρv hs hr hn _
        obtain⟨hle,hs'⟩:=hs.addRow (id:=id) (hn id (by simp)) (e:=e) (t:=ty) (l:=[]) (xs:=[]) (cur:=#[]) 0 rfl (Nat.le_refl _) (Nat.zero_le _) (by simp) (by simp) w (.inl rfl)
        refine yA.value (v:=.slice (some ⟨w.heap.size,0,none⟩) 0 0) (w':=w.alloc (.cells #[] e)) ?_ ⟨_,hle,hs',fun b hb=>.inl hb,?_⟩
        ·unfold execOp
         simp only[ho]
         simp[Instr.buildSlice,run_underlying hu,sizeOf,typeInfo,hie,Instr.fill,newRow,Array.range_zero']
        ·unfold Rep
         exact⟨by rw[gD];simp,by simp[En.setRow],_,_,_,rfl⟩
       ·cases h
      ·rename_i hnz
       have hnz' : ¬ len*ie.size=0:=fun e=>hnz (by rw[e];rfl)
       split at h
       ·rename_i out hout
        split at h
        ·rename_i l hl
         cases h
         intro w0 M E U w ρv hs hr hn _
         have hr' : zA E U w args ((parts.toList.map (·.2)).map ρv):=by simpa[ho,Op.operands] using hr
         obtain⟨h1,h2⟩:=zip_parts hr'
         have hrz:=yB hc (svOf_ok E U w z)
         obtain⟨res,hfill,hres⟩:=fill_ok (fun i=>some (i*ie.size,ie.size)) _ _ out _ _ hout (range_zero hrz hcpos (List.range (len*ie.size))) h1 h2
         obtain⟨hflat,hlen⟩:=ofCellsN_ok len out l res hl hres
         have hrl:res.length=l.length*ty.size:=hflat.length
         obtain⟨hle,hs'⟩:=hs.addRow (id:=id) (hn id (by simp)) (e:=e) (cur:=res.toArray) len hflat (by omega) (by have:=hcond.2;simp only[maxLen];omega) (by simp[hrl,hlen]) (by rw[List.toList_toArray,<- hrl,List.take_length]) w (.inl rfl)
         rw[hlen] at hle hs'
         refine yA.value (v:=.slice (some ⟨w.heap.size,0,none⟩) len len) (w':=w.alloc (.cells res.toArray e)) ?_ ⟨_,hle,hs',fun b hb=>.inl hb,?_⟩
         ·have hrun:=run_buildSlice (P:=P) w t e len (parts.map fun x=>(x.1,ρv x.2)) res.toArray ie z hu hie hz (by have:=hcond.1.2;omega) hnz' (by
           rw[<- hfill]
           congr 1
           ·exact Array.ext' (by simp)
           ·simp)
          unfold execOp
          simp only[ho]
          simp[hrun]
         ·unfold Rep
          exact⟨by rw[gD];simp,by simp[En.setRow],_,_,_,rfl⟩
        ·cases h
       ·cases h
     ·cases h
    ·cases h
   ·cases h
  ·cases h
 ·cases h
def semIdx(P:Program)(t:TypeId)(x ix:SV):Option Eff :=
 match P.underlying t,x,ix with
 |some (.array n e),.agg cs,.int _ i=>match xT P e,agOf P e,tyOf P 9 e with
  |some sz,some ag,some ty=>if Nat.beq ty.size sz then match ofCellsN ty n cs with
   |some l=>match mkVal ag (ty.cells (l.getD i.toNat ty.gB)) with
    |some s=>some { need:=some (0<=i/\i<(n:Int)),res:=s }
    |none=>none
   |none=>none
   else none
  |_,_,_=>none
 |_,_,_=>none
theorem repL_any{E:En}{U:Nat->Bool}{w:World}:∀vs:List Value,zA E U w (List.replicate vs.length .any) vs
 | []=>zA.nil
 |v::vs=>zA.cons (by unfold Rep;trivial) (repL_any vs)
theorem semIdx_ok{P:Program}{H:Hp}{o:Oper}{t:TypeId}{x y:Operand}{a b:SV}{eff:Eff}(ho:o.op = .index t x y) (h:semIdx P t a b=some eff):zS P o [a,b] H eff:=by
 unfold semIdx at h
 split at h<;>try (cases h;done)
 rename_i n e cs k i hu
 split at h<;>try (cases h;done)
 rename_i sz ag ty hsz hag hty
 split at h<;>try (cases h;done)
 rename_i hbeq
 have hbeq:=nbT hbeq
 split at h<;>try (cases h;done)
 rename_i l hl
 split at h<;>try (cases h;done)
 rename_i s hs
 cases h
 refine zS.same rfl rfl fun w0 M E U w ρv hsat hr hp=>?_
 obtain⟨h0,h1⟩:=hp
 simp only[ho,Op.operands] at hr
 obtain⟨v,u,hv,hx,hy⟩:=vD hr
 simp only[List.map_cons,List.map_nil,List.cons.injEq,and_true] at hv
 unfold Rep at hx hy
 obtain⟨vs,rfl,hvs⟩:=hx
 subst hy
 obtain⟨hflat,hlen⟩:=ofCellsN_ok n cs l vs hl hvs
 have hlt:i.toNat<l.length:=by omega
 have hget:l[i.toNat]? = some (l.getD i.toNat ty.gB):=by simp[List.getD,List.getElem?_eq_getElem hlt]
 obtain⟨x1,x2,x3,exs,hx1,hdr,_,_⟩:=zZ.at hflat hget
 have hcells:=zG.cells (E:=E) (U:=U) ty _ _ hdr
 have hl2:=hcells.length
 have hx2:=zG.length ty _ _ hdr
 have hpart:partSV P e (List.replicate x1.length .any++ty.cells (l.getD i.toNat ty.gB)++List.replicate x3.length .any) (i.toNat*sz)=some s:=by
  unfold partSV
  rw[hsz,hag]
  dsimp only
  have e1:x1.length=i.toNat*sz:=by rw[hx1,hbeq]
  rw[if_pos]
  ·rw[List.append_assoc,<- e1,List.drop_left' (by simp),List.take_left' (by omega)]
   exact hs
  ·refine Nat.ble_eq_true_of_le ?_
   simp only[List.length_append,List.length_replicate]
   omega
 obtain⟨r,hrun,hrep⟩:=run_part hpart (((repL_any x1).append hcells).append (repL_any x3))
 refine⟨r,?_,hrep⟩
 have evs:x1++x2++x3=vs:=by rw[exs,List.append_assoc]
 rw[evs] at hrun
 unfold execOp
 simp only[ho,hv.1,hv.2]
 simp[Instr.index,asIntOf,run_underlying hu,h0,h1,vE hsz,hrun]
end Go.Sx
namespace Go.Sx
open Go.RowKit
theorem HSat.drop{w0:World}{M:Nat->Prop}{E:En}{U:Nat->Bool}{H:Hp}{w:World}(hs:HSat w0 M E U H w) (k:Nat):HSat w0 M E U (apH H [(k,none)]) w:=by
 have hsub:∀j o,apH H [(k,none)] j=some o->H j=some o/\j≠k:=by
  intro j o hj
  rw[apH1] at hj
  split at hj
  ·cases hj
  ·exact⟨hj,‹_›⟩
 have hlv:∀j,jF E (apH H [(k,none)]) j->jF E H j:=fun j ⟨o,hj,hl⟩=>⟨o,(hsub j o hj).1,hl⟩
 exact⟨fun j o hj=>hs.ob j o (hsub j o hj).1,fun a b ha hb he=>hs.inj a b (hlv a ha) (hlv b hb) he,fun j hj=>hs.imm j (hlv j hj),hs.lt,fun j hj=>hs.mine j (hlv j hj),hs.frame⟩
theorem HSat.dropNe{E:En}{H:Hp}{k j:Nat}(h:jF E (apH H [(k,none)]) j):j≠k/\jF E H j:=by
 obtain⟨o,hj,hl⟩:=h
 rw[apH1] at hj
 split at hj
 ·cases hj
 ·exact⟨‹_›,o,hj,hl⟩
theorem wS.flat{I:Nat->Prop}{w:World}{t:Ty}{l:List t.den}{b o:Nat}(h:∀(i:Nat)(d:t.den),l[i]? = some d->∃cs,gF w b (o+i*t.size) cs/\zG I w t d cs):∃xs,zZ I w t l xs/\gF w b o xs:=by
 induction l generalizing o with
 |nil=>exact⟨[],rfl,fun j v hv=>by simp at hv⟩
 |cons d l ih=>
  obtain⟨cs,hr,hd⟩:=h 0 d rfl
  obtain⟨xs,hf,hx⟩:=ih (o:=o+t.size) (fun i e he=>by
   obtain⟨c,h1,h2⟩:=h (i+1) e (by simpa using he)
   exact⟨c,by rw[Nat.succ_mul] at h1;rwa [show o+t.size+i*t.size=o+(i*t.size+t.size) from by omega],h2⟩)
  refine⟨cs++xs,⟨cs,xs,rfl,hd,hf⟩,?_⟩
  intro j v hv
  have hcl:=zG.length t d cs hd
  rcases Nat.lt_or_ge j cs.length with hj |hj
  ·rw[List.getElem?_append_left hj] at hv
   have:=hr j v hv
   rwa [Nat.zero_mul,Nat.add_zero] at this
  ·rw[List.getElem?_append_right hj] at hv
   have:=hx _ v hv
   rwa [show o+t.size+(j - cs.length)=o+j from by omega] at this
def srcOf(H:Hp):SV->Option ((t:Ty) × List t.den)
 |.sl t l=>some ⟨t,l⟩
 |.nsl t l _=>some ⟨t,l⟩
 |.own k=>match H k with
  |some (.row _ t l)=>some ⟨t,l⟩
  |some (.frz t l)=>some ⟨t,l⟩
  |_=>none
 |_=>none
theorem srcOf_ok{w0:World}{M:Nat->Prop}{E:En}{U:Nat->Bool}{H:Hp}{w:World}(hs:HSat w0 M E U H w) {x:SV}{v:Value}(hx:Rep E U w x v) {t:Ty}{l:List t.den}(h:srcOf H x=some ⟨t,l⟩) :
  ∃p cap,v = .slice p l.length cap/\(l=[]\/∃b o xs,p=some ⟨b,o,none⟩/\zZ E.I w t l xs/\gF w b o xs):=by
 have key:wS E.I w t.size (zG E.I w t) l v->∃p cap,v = .slice p l.length cap/\(l=[]\/∃b o xs,p=some ⟨b,o,none⟩/\zZ E.I w t l xs/\gF w b o xs):=by
  rintro⟨p,cap,hv,_,hl⟩
  refine⟨p,cap,hv,?_⟩
  rcases hl with hl |⟨b,o,hp,_,hi⟩
  ·exact .inl hl
  ·obtain⟨xs,h1,h2⟩:=wS.flat hi
   exact .inr ⟨b,o,xs,hp,h1,h2⟩
 unfold srcOf at h
 split at h
 ·cases h
  unfold Rep at hx
  obtain⟨u,hu,hsl⟩:=hx
  cases hu
  exact key hsl
 ·cases h
  unfold Rep at hx
  obtain⟨⟨u,hu,hsl⟩,_⟩:=hx
  cases hu
  exact key hsl
 ·rename_i k
  unfold Rep at hx
  split at h
  ·rename_i e t' l' hk
   cases h
   obtain⟨_,xs,hown,hf,hsv⟩:=hs.ob k _ hk
   rw[hx.2.1]
   rcases hsv with h2 |⟨cap,h2⟩
   ·rw[h2] at hown ⊢
    rcases hown.2 with⟨_,h3⟩ |⟨g,cap,cur,ty,mk,h3,_⟩
    ·exact⟨none,0,by rw[h3],.inl (List.eq_nil_of_length_eq_zero h3)⟩
    ·cases h3
   ·rw[h2] at hown ⊢
    refine⟨_,cap,rfl,.inr ⟨E.ρ k,0,xs,rfl,hf,?_⟩⟩
    intro j v hv
    have:=World.ownR.cells hown (g:=E.ρ k) rfl j v hv
    rwa [Nat.zero_add]
  ·rename_i t' l' hk
   cases h
   rw[hx.2.1]
   have:=(hs.ob k _ hk).2
   obtain⟨p,cap,hv,hc,hl⟩:=(this:wS _ _ _ _ _ _)
   refine⟨p,cap,hv,?_⟩
   rcases hl with hl |⟨b,o,hp,_,hi⟩
   ·exact .inl hl
   ·obtain⟨xs,h1,h2⟩:=wS.flat hi
    exact .inr ⟨b,o,xs,hp,h1,h2⟩
  ·cases h
 ·cases h
def semAppend(P:Program)(H:Hp)(id:Nat)(ts:Array TypeId)(s x:SV):Option Eff :=
 match ts[0]?,ts[1]? with
 |some t,some t' =>if Nat.beq t t'&&Nat.beq ts.size 2 then match P.underlying t with
  |some (.slice e)=>match P.info? e with
   |some ie=>match ie.zero with
    |some z=>if Nat.beq z.cells.size ie.size&&Nat.ble 1 ie.size&&Nat.ble 1 ie.bytes then match srcOf H x with
     |some ⟨ty,m⟩=>if Nat.beq ty.size ie.size then match s with
      |.own k=>match H k with
       |some (.row e' ty' l)=>if h:(Nat.beq e e'&&Nat.blt e' mkd)=true/\Ty.beq ty ty'=true then
         some { need:=some ((l.length+m.length)*ie.bytes<=140737488355328),res:=.own id,upd:=[(id,some (.row e' ty' (l++(Ty.beq_eq h.2) ▸ m))),(k,none)],news:=[id] }
        else none
       |some (.clip ty' l)=>if h:Ty.beq ty ty'=true then
         some { need:=some (0<m.length/\(l.length+m.length)*ie.bytes<=140737488355328),res:=.own id,upd:=[(id,some (.row e ty' (l++(Ty.beq_eq h) ▸ m)))],news:=[id] }
        else none
       |_=>none
      |.nils=>some { need:=some (m.length*ie.bytes<=140737488355328),res:=.own id,upd:=[(id,some (.row e ty m))],news:=[id] }
      |_=>none
      else none
     |none=>none
     else none
    |none=>none
   |none=>none
  |_=>none
  else none
 |_,_=>none
theorem wP{P:Program}{t e:TypeId}{n:Nat}(hu:P.underlying t=some (.slice e)) (hn:xT P e=some n) (w:World) (ty:TypeId) (base p:Option Addr) (len cap c:Nat) (hc:len<=cap) :
  (Builtin.append_ #[t,t] ty #[.slice base len cap,.slice p 0 c]).run P w = .ok (.slice base len cap) w:=by
 cases base<;>cases p<;>simp[Builtin.append_,run_underlying hu,vE hn,Builtin.lenOf,hc,Builtin.firstCells,loadCells,loadCellsFrom,storeCells]
theorem wJ{P:Program}{o:Oper}{xs:Array Operand}{ts:Array TypeId}{t:TypeId}(ho:o.op = .call { callee:=.builtin .append,args:=xs,argTypes:=ts }) (hts:ts = #[t,t]) (ρv:Operand->Value) (w w' : World) (u v r:Value)
  (hx:xs.map ρv = #[u,v]) (h:(Builtin.append_ #[t,t] o.type #[u,v]).run P w = .ok r w'):(execOp ρv o).run P w = .ok (.value r) w':=by
 subst hts
 unfold execOp
 simp[ho,resolve,invoke,builtin,hx,h]
theorem semAppend_ok{P:Program}{H:Hp}{o:Oper}{xs:Array Operand}{ts:Array TypeId}{id:Nat}{s x:SV}{eff:Eff}(ho:o.op = .call { callee:=.builtin .append,args:=xs,argTypes:=ts }) (h:semAppend P H id ts s x=some eff):zS P o [s,x] H eff:=by
 have ops:∀(ρv:Operand->Value),o.op.operands.toList.map ρv=(xs.map ρv).toList:=by
  intro ρv
  simp[ho,Op.operands,Call.operands]
 unfold semAppend at h
 split at h<;>try (cases h;done)
 rename_i t t' ht0 ht1
 split at h<;>try (cases h;done)
 rename_i hct
 simp only[Bool.and_eq_true] at hct
 have htt:=nbT hct.1
 subst htt
 have hts:ts = #[t,t]:=by
  have h2:=nbT hct.2
  apply Array.ext
  ·exact h2
  ·intro i hi1 hi2
   simp only[List.size_toArray,List.length_cons,List.length_nil] at hi2
   match i,hi2 with
   |0,_=>have:=ht0;rw[Array.getElem?_eq_getElem hi1] at this;simpa using this
   |1,_=>have:=ht1;rw[Array.getElem?_eq_getElem hi1] at this;simpa using this
 split at h<;>try (cases h;done)
 rename_i e hu
 split at h<;>try (cases h;done)
 rename_i ie hie
 split at h<;>try (cases h;done)
 rename_i z hz
 split at h<;>try (cases h;done)
 rename_i hcond
 simp only[Bool.and_eq_true,Nat.ble_eq] at hcond
 have hzs:=nbT hcond.1.1
 have hpos:=hcond.1.2
 have hbpos:=hcond.2
 have hszo:xT P e=some ie.size:=by simp[xT,hie]
 split at h<;>try (cases h;done)
 rename_i ty m hsrc
 split at h<;>try (cases h;done)
 rename_i hsz
 have hsz':=nbT hsz
 split at h
 ·rename_i k
  split at h<;>try (cases h;done)
  ·rename_i e' ty' l hk
   split at h<;>try (cases h;done)
   rename_i hb
   obtain⟨hb1,hpl⟩:=Bool.and_eq_true _ _ ▸ hb.1
   have hee:=nbT hb1
   have htyy:=Ty.beq_eq hb.2
   subst hee
   subst htyy
   cases h
   intro w0 M E U w ρv hs hr hn hneed
   rw[ops] at hr
   obtain⟨u,v,huv,h1,h2⟩:=vD hr
   have hxs:xs.map ρv = #[u,v]:=Array.ext' (by rw[huv])
   obtain⟨p,c,hv,hm⟩:=srcOf_ok hs h2 hsrc
   obtain⟨hUk,ys,hown,hfl,hsv⟩:=hs.ob k _ hk
   replace hown:=hown.plain hpl
   unfold Rep at h1
   have hid:U id=false:=hn id (by simp)
   have hne:k≠id:=fun e=>by rw[e,hid] at hUk;cases hUk
   have hneed' : (l.length+m.length)*ie.bytes<=140737488355328:=hneed
   have hlen47:l.length+m.length<=140737488355328:=Nat.le_trans (Nat.le_mul_of_pos_right _ hbpos) hneed'
   have hmax:l.length+m.length<=maxLen:=by simp only[maxLen];omega
   have hsd:=hs.drop k
   subst hv
   by_cases hme:m=[]
   ·-- nothing is appended
    subst hme
    have hrun:(Builtin.append_ #[t,t] o.type #[u,.slice p 0 c]).run P w = .ok u w:=by
     rw[h1.2.1]
     rcases hown.2 with⟨h3,_⟩ |⟨g,cap,cur,h3,_,_,h4,_⟩
     ·rw[h3];exact wP hu hszo w _ _ _ _ _ _ (Nat.le_refl _)
     ·rw[h3];exact wP hu hszo w _ _ _ _ _ _ h4
    have hle:=qM (H:=H) hs hid (w':=w) (fun _ _=>rfl) (E.ρ k) (E.sv k)
    refine yA.value (wJ ho hts ρv w w u _ u hxs hrun) ⟨E.setRow id (E.ρ k) (E.sv k),hle,?_,fun b hb=>.inl hb,?_⟩
    ·refine HSat.add' hsd hid hs.frame (Nat.le_refl _) rfl hle (fun _ _=>rfl) ?_ ⟨ys,ownR_of (by simp[En.setRow];exact hown),by simp;exact zZ.mono hle.imm hle.heap _ _ _ hfl,by simpa[En.setRow] using hsv⟩
     intro hl
     have hlk:jF E H k:=⟨_,hk,by
      have:(E.setRow id (E.ρ k) (E.sv k)).sv id ≠ .slice none 0 0:=hl
      show E.sv k≠_
      simpa[En.setRow] using this⟩
     refine⟨fun j hj=>?_,?_,?_⟩
     ·obtain⟨hjk,hj'⟩:=HSat.dropNe hj
      simp only[En.setRow,if_true]
      exact fun e=>hjk (hs.inj j k hj' hlk e)
     ·simp only[En.setRow,if_true];exact hs.imm k hlk
     ·simp only[En.setRow,if_true];exact hs.mine k hlk
    ·unfold Rep
     exact⟨by rw[gD];simp,by simp[En.setRow,h1.2.1],h1.2.2⟩
   ·rcases hm with hm |⟨b,off,news,rfl,hfn,hrow⟩
    ·exact absurd hm hme
    have hnl:news.length=m.length*ie.size:=by rw[hfn.length,hsz']
    have hnews:∀j u,news[j]? = some u->w.cell? ((⟨b,off,none⟩:Addr).add j)=some u:=fun j u hj=>by rw[y_];exact (hrow j u hj).1
    have hmpos:0<m.length:=List.length_pos_iff.2 hme
    -- into new memory
    have grow:∀(sCap:Nat),sCap<l.length+m.length->(Builtin.append_ #[t,t] o.type #[u,.slice (some ⟨b,off,none⟩) m.length c]).run P w =
      .ok (.slice (some ⟨w.heap.size,0,none⟩) (l.length+m.length) (grownCap w (l.length+m.length) sCap e)) (w.drew.alloc (.cells (ys.toArray++news.toArray++Builtin.zeroCells z.cells (grownCap w (l.length+m.length) sCap e - (l.length+m.length))) e)) ->
      yA P (execOp ρv o) w fun v w' =>∃E',En.Le U (apU U [id]) E E' w w'/\HSat w0 M E' (apU U [id]) (apH H [(id,some (.row e ty (l++m))),(k,none)]) w'/\vZ E E' H w/\Rep E' (apU U [id]) w' (.own id) v:=by
     intro sCap hcap hrun
     have hge:=grownCap_ge w (l.length+m.length) sCap e
     have hcm:=grownCap_le_maxLen w (l.length+m.length) sCap e hmax
     have hfa:zZ E.I w ty (l++m) (ys++news):=hfl.append hfn
     have hfal:=hfa.length
     obtain⟨hle,hs'⟩:=hsd.addRow (id:=id) hid (e:=e) (t:=ty) (l:=l++m) (xs:=ys++news)
      (cur:=ys.toArray++news.toArray++Builtin.zeroCells z.cells (grownCap w (l.length+m.length) sCap e - (l.length+m.length))) (grownCap w (l.length+m.length) sCap e) hfa (by simpa using hge) hcm
      (by
       simp only[Array.size_append,List.size_toArray,size_zeroCells,hzs,hsz']
       rw[<- List.length_append,hfal,hsz',List.length_append,<- Nat.add_mul]
       congr 1;omega)
      (by
       rw[<- hfal]
       simp only[Array.toList_append,List.append_assoc]
       rw[<- List.append_assoc,List.take_left]) w.drew (.inr rfl)
     rw[List.length_append] at hle hs'
     refine yA.value (wJ ho hts ρv w _ u _ _ hxs hrun) ⟨_,hle,hs',fun b hb=>.inl hb,?_⟩
     unfold Rep
     exact⟨by rw[gD];simp,by simp[En.setRow],_,_,_,rfl⟩
    have hown':=hown
    obtain⟨hyl,hown2⟩:=hown
    rw[hsz'] at hyl
    rcases hown2 with⟨h3,hl0⟩ |⟨g,cap,cur,h3,hbg,hg,hnc,hcm,hcs,htake⟩
    ·-- nil
     have hle0:l=[]:=List.eq_nil_of_length_eq_zero hl0
     subst hle0
     have hys:ys=[]:=List.eq_nil_of_length_eq_zero (by simpa using hyl)
     subst hys
     refine grow 0 (by simpa using hmpos) ?_
     rw[h1.2.1,h3]
     have:=run_append_nil (P:=P) w t o.type e ie z hu hie hz ⟨b,off,none⟩ m.length c news hnl hnews hmpos (by simp only[maxLen] at hmax;simp at hmax;omega) (by simp at hneed';omega)
     simpa using this
    ·have hgk:g=E.ρ k:=by
      rcases hsv with h0 |⟨cap',h0⟩
      ·rw[h0] at h3;cases h3
      ·rw[h0] at h3;cases h3;rfl
     subst hgk
     by_cases hroom:l.length+m.length<=cap
     ·-- into the spare room
      have hfit:l.length*ie.size+news.length<=cur.size:=by rw[hnl,hcs,hsz',<- Nat.add_mul];exact Nat.mul_le_mul_right _ hroom
      have hrun:=run_append_room (P:=P) w t o.type e ie hu hie (E.ρ k) l.length cap cur hg ⟨b,off,none⟩ m.length c news hnl hnews (zZ.one hfn) hroom hfit
      rw[<- h3,<- h1.2.1] at hrun
      obtain⟨cur',hcur'⟩:∃c' : Array Value,c'=(cur.toList.take (l.length*ie.size)++news++cur.toList.drop (l.length*ie.size+news.length)).toArray:=⟨_,rfl⟩
      rw[<- hcur'] at hrun
      have hlk:jF E H k:=⟨_,hk,by show E.sv k≠_;rw[h3];simp⟩
      have hImm:=hs.imm k hlk
      have hle:=qM (H:=H) hs hid (w':=w.setRow (E.ρ k) cur') (fun b hb=>setRow_other w (E.ρ k) b cur' (fun e=>hImm (e ▸ hb))) (E.ρ k) (.slice (some ⟨E.ρ k,0,none⟩) (l.length+m.length) cap)
      refine yA.value (wJ ho hts ρv w _ u _ _ hxs hrun) ⟨_,hle,?_,fun b hb=>.inl hb,?_⟩
      ·refine HSat.add' hsd hid ?_ (by simp) rfl hle ?_ ?_ ⟨ys++news,?_,zZ.mono hle.imm hle.heap _ _ _ (hfl.append hfn),.inr ⟨cap,by simp[En.setRow]⟩⟩
       ·have hf:=hs.frame
        refine⟨hf.os,hf.tape,hf.output,by simpa using hf.size,hf.drawn,fun b' hb' hm' =>?_⟩
        rw[setRow_other w _ _ cur']
        ·exact hf.block b' hb' hm'
        ·intro e'
         rcases hs.mine k hlk with h |h
         ·exact hm' (e' ▸ h)
         ·omega
       ·intro j hj
        obtain⟨hjk,hj'⟩:=HSat.dropNe hj
        exact setRow_other w _ _ cur' fun e=>hjk (hs.inj j k hj' hlk e)
       ·intro _
        refine⟨fun j hj=>?_,?_,?_⟩
        ·obtain⟨hjk,hj'⟩:=HSat.dropNe hj
         simp only[En.setRow,if_true]
         exact fun e=>hjk (hs.inj j k hj' hlk e)
        ·simp only[En.setRow,if_true];exact hImm
        ·simp only[En.setRow,if_true];exact hs.mine k hlk
       ·refine ownR_of ⟨by rw[(hfl.append hfn).length],.inr ⟨E.ρ k,cap,cur',by simp[En.setRow],Nat.zero_le _,setRow_heap w _ _ _ _ _ hg,by simpa using hroom,hcm,?_,?_⟩⟩
        ·rw[hcur',List.size_toArray,<- hcs]
         simp only[List.length_append,List.length_take,List.length_drop,Array.length_toList]
         omega
        ·rw[hcur',List.toList_toArray,<- hsz',htake]
         rw[show (l++m).length*ty.size=(ys++news).length from ((hfl.append hfn).length).symm]
         rw[List.take_left]
      ·unfold Rep
       exact⟨by rw[gD];simp,by simp[En.setRow],_,_,_,rfl⟩
     ·refine grow cap (by omega) ?_
      have holds:∀j u,ys[j]? = some u->w.cell? ((⟨E.ρ k,0,none⟩:Addr).add j)=some u:=by rw[h3] at hown';exact hown'.cells (g:=E.ρ k) rfl
      have:=run_append_grow (P:=P) w t o.type e ie z hu hie hz ⟨E.ρ k,0,none⟩ l.length cap ys hyl holds ⟨b,off,none⟩ m.length c news hnl hnews (by omega) (by simp only[maxLen] at hmax;omega) (growslice_fits (by omega) hneed')
      rw[h1.2.1,h3]
      exact this
  ·-- onto a slice without spare room
   rename_i ty' l hk
   split at h<;>try (cases h;done)
   rename_i hb
   have htyy:=Ty.beq_eq hb
   subst htyy
   cases h
   intro w0 M E U w ρv hs hr hn hneed
   rw[ops] at hr
   obtain⟨u,v,huv,h1,h2⟩:=vD hr
   have hxs:xs.map ρv = #[u,v]:=Array.ext' (by rw[huv])
   obtain⟨p,c,hv,hm⟩:=srcOf_ok hs h2 hsrc
   obtain⟨hUk,hsl,q0,hq0⟩:=hs.ob k _ hk
   unfold Rep at h1
   have hid:U id=false:=hn id (by simp)
   obtain⟨hmpos,hneed'⟩:0<m.length/\(l.length+m.length)*ie.bytes<=140737488355328:=hneed
   have hlen47:l.length+m.length<=140737488355328:=Nat.le_trans (Nat.le_mul_of_pos_right _ hbpos) hneed'
   have hmax:l.length+m.length<=maxLen:=by simp only[maxLen];omega
   subst hv
   rcases hm with hm |⟨b,off,news,rfl,hfn,hrow⟩
   ·rw[hm] at hmpos;exact absurd hmpos (by simp)
   have hnl:news.length=m.length*ie.size:=by rw[hfn.length,hsz']
   have hnews:∀j u,news[j]? = some u->w.cell? ((⟨b,off,none⟩:Addr).add j)=some u:=fun j u hj=>by rw[y_];exact (hrow j u hj).1
   obtain⟨q,cap,hq,hcap,hcell⟩:=hsl
   obtain⟨ys,hfl,hrun⟩:∃ys,zZ E.I w ty l ys/\(Builtin.append_ #[t,t] o.type #[u,.slice (some ⟨b,off,none⟩) m.length c]).run P w =
     .ok (.slice (some ⟨w.heap.size,0,none⟩) (l.length+m.length) (grownCap w (l.length+m.length) l.length e)) (w.drew.alloc (.cells (ys.toArray++news.toArray++Builtin.zeroCells z.cells (grownCap w (l.length+m.length) l.length e - (l.length+m.length))) e)):=by
    rw[h1.2.1,hq0]
    cases hq1:q0 with
    |none=>
     have hle0:l=[]:=by
      rcases hcell with h |⟨b',o',hp,_⟩
      ·exact h
      ·rw[hq0] at hq
       injection hq with e1
       rw[<- e1,hq1] at hp
       cases hp
     subst hle0
     refine⟨[],rfl,?_⟩
     have:=run_append_nil (P:=P) w t o.type e ie z hu hie hz ⟨b,off,none⟩ m.length c news hnl hnews hmpos (by simp only[maxLen] at hmax;simp at hmax;omega) (by simp at hneed';omega)
     simpa using this
    |some a=>
     obtain⟨ys,hfl,hys⟩:∃ys,zZ E.I w ty l ys/\∀j v,ys[j]? = some v->w.cell? (a.add j)=some v:=by
      rcases hcell with h |⟨b',o',hp,_,hi⟩
      ·subst h;exact⟨[],rfl,fun j v hv=>by simp at hv⟩
      ·obtain⟨ys,h1',h2'⟩:=wS.flat hi
       refine⟨ys,h1',fun j v hv=>?_⟩
       rw[hq0] at hq
       injection hq with e1
       rw[<- e1,hq1] at hp
       injection hp with hp
       rw[hp,y_]
       exact (h2' j v hv).1
     refine⟨ys,hfl,?_⟩
     exact run_append_grow (P:=P) w t o.type e ie z hu hie hz a l.length l.length ys (by rw[hfl.length,hsz']) hys ⟨b,off,none⟩ m.length c news hnl hnews (by omega) (by simp only[maxLen] at hmax;omega) (growslice_fits (by omega) hneed')
   have hge:=grownCap_ge w (l.length+m.length) l.length e
   have hcm:=grownCap_le_maxLen w (l.length+m.length) l.length e hmax
   have hfa:zZ E.I w ty (l++m) (ys++news):=hfl.append hfn
   have hfal:=hfa.length
   obtain⟨hle,hs'⟩:=hs.addRow (id:=id) hid (e:=e) (t:=ty) (l:=l++m) (xs:=ys++news)
    (cur:=ys.toArray++news.toArray++Builtin.zeroCells z.cells (grownCap w (l.length+m.length) l.length e - (l.length+m.length))) (grownCap w (l.length+m.length) l.length e) hfa (by simpa using hge) hcm
    (by
     simp only[Array.size_append,List.size_toArray,size_zeroCells,hzs,hsz']
     rw[<- List.length_append,hfal,hsz',List.length_append,<- Nat.add_mul]
     congr 1;omega)
    (by
     rw[<- hfal]
     simp only[Array.toList_append,List.append_assoc]
     rw[<- List.append_assoc,List.take_left]) w.drew (.inr rfl)
   rw[List.length_append] at hle hs'
   refine yA.value (wJ ho hts ρv w _ u _ _ hxs hrun) ⟨_,hle,hs',fun b hb=>.inl hb,?_⟩
   unfold Rep
   exact⟨by rw[gD];simp,by simp[En.setRow],_,_,_,rfl⟩
 ·-- onto nil
  cases h
  intro w0 M E U w ρv hs hr hn hneed
  rw[ops] at hr
  obtain⟨u,v,huv,h1,h2⟩:=vD hr
  have hxs:xs.map ρv = #[u,v]:=Array.ext' (by rw[huv])
  obtain⟨p,c,hv,hm⟩:=srcOf_ok hs h2 hsrc
  unfold Rep at h1
  have hid:U id=false:=hn id (by simp)
  have hneed' : m.length*ie.bytes<=140737488355328:=hneed
  have hlen47:m.length<=140737488355328:=Nat.le_trans (Nat.le_mul_of_pos_right _ hbpos) hneed'
  have hmax:m.length<=maxLen:=by simp only[maxLen];omega
  subst hv
  subst h1
  by_cases hme:m=[]
  ·subst hme
   have hrun:=wP (P:=P) hu hszo w o.type none p 0 0 c (Nat.le_refl _)
   have hle:=qM (H:=H) hs hid (w':=w) (fun _ _=>rfl) 0 (.slice none 0 0)
   refine yA.value (wJ ho hts ρv w w _ _ _ hxs hrun) ⟨E.setRow id 0 (.slice none 0 0),hle,?_,fun b hb=>.inl hb,?_⟩
   ·refine HSat.add' hs hid hs.frame (Nat.le_refl _) rfl hle (fun _ _=>rfl) (fun hl=>?_) ⟨[],⟨by simp,.inl ⟨by simp[En.setRow],rfl⟩⟩,rfl,.inl (by simp[En.setRow])⟩
    exact absurd (by simp[En.setRow]) (show (E.setRow id 0 (.slice none 0 0)).sv id ≠ .slice none 0 0 from hl)
   ·unfold Rep
    exact⟨by rw[gD];simp,by simp[En.setRow],_,_,_,rfl⟩
  ·rcases hm with hm |⟨b,off,news,rfl,hfn,hrow⟩
   ·exact absurd hm hme
   have hnl:news.length=m.length*ie.size:=by rw[hfn.length,hsz']
   have hnews:∀j u,news[j]? = some u->w.cell? ((⟨b,off,none⟩:Addr).add j)=some u:=fun j u hj=>by rw[y_];exact (hrow j u hj).1
   have hmpos:0<m.length:=List.length_pos_iff.2 hme
   have hrun:=run_append_nil (P:=P) w t o.type e ie z hu hie hz ⟨b,off,none⟩ m.length c news hnl hnews hmpos (by simp only[maxLen] at hmax;omega) (by omega)
   have hge:=grownCap_ge w m.length 0 e
   have hcm:=grownCap_le_maxLen w m.length 0 e hmax
   obtain⟨hle,hs'⟩:=hs.addRow (id:=id) hid (e:=e) (t:=ty) (l:=m) (xs:=news)
    (cur:=news.toArray++Builtin.zeroCells z.cells (grownCap w m.length 0 e - m.length)) (grownCap w m.length 0 e) hfn hge hcm
    (by
     simp only[Array.size_append,List.size_toArray,size_zeroCells,hzs,hsz',hnl]
     rw[<- Nat.add_mul]
     congr 1;omega)
    (by
     rw[show m.length*ty.size=news.length from by rw[hfn.length]]
     simp only[Array.toList_append]
     rw[List.take_left]) w.drew (.inr rfl)
   refine yA.value (wJ ho hts ρv w _ _ _ _ hxs hrun) ⟨_,hle,hs',fun b hb=>.inl hb,?_⟩
   unfold Rep
   exact⟨by rw[gD];simp,by simp[En.setRow],_,_,_,rfl⟩
 ·cases h
def En.addI(E:En)(b:Nat):En:={ E with I:=fun x=>E.I x\/x=b }
theorem pA{w:World}{e:TypeId}{t:Ty}{l:List t.den}{v:Value}{xs:List Value}{I:Nat->Prop}(h:w.ownR e t.size v l.length xs) (hf:zZ I w t l xs) (hI:∀b,v.ownBlock=some b->I b):wS I w t.size (zG I w t) l v:=by
 have hcl:=fun g hg=>World.ownR.cells h (g:=g) hg
 obtain⟨h1,h2⟩:=h
 rcases h2 with⟨rfl,h3⟩ |⟨g,cap,cur,ty,mk,rfl,hg,hnc,_,_,htk,_⟩
 ·exact⟨none,0,by rw[h3],by omega,.inl (List.eq_nil_of_length_eq_zero h3)⟩
 ·refine⟨_,cap,rfl,hnc,.inr ⟨g,0,rfl,hI g rfl,fun i d hd=>?_⟩⟩
  obtain⟨a,b,c,exs,ha,hdr,_,_⟩:=zZ.at hf hd
  refine⟨b,fun j u hu=>?_,hdr⟩
  have hx:xs[a.length+j]? = some u:=by
   rw[exs,List.getElem?_append_right (by omega),Nat.add_sub_cancel_left,List.getElem?_append_left (List.getElem?_eq_some_iff.1 hu).1]
   exact hu
  have:=hcl g rfl _ u hx
  rwa [Nat.zero_add,<- ha]
theorem HSat.freeze{w0:World}{M:Nat->Prop}{E:En}{U:Nat->Bool}{H:Hp}{w:World}(hs:HSat w0 M E U H w) {k:Nat}{e:TypeId}{t:Ty}{l:List t.den}(hk:H k=some (.row e t l)) :
  ∃E',En.Le U U E E' w w/\HSat w0 M E' U (apH H [(k,some (.frz t l))]) w/\vZ E E' H w/\wS E'.I w t.size (zG E'.I w t) l (E'.sv k):=by
 obtain⟨hU,xs,hown,hf,hsv⟩:=hs.ob k _ hk
 by_cases hlive:E.sv k = .slice none 0 0
 ·-- nil: nothing to give up
  have hsl:wS E.I w t.size (zG E.I w t) l (E.sv k):=pA hown hf (fun b hb=>by rw[hlive] at hb;cases hb)
  refine⟨E,En.Le.refl U E w,?_,vZ.refl rfl H w,hsl⟩
  have hlv:∀j,jF E (apH H [(k,some (.frz t l))]) j->jF E H j:=by
   rintro j ⟨o,hj,hl⟩
   rw[apH1] at hj
   split at hj
   ·cases hj;exact hl.elim
   ·exact⟨o,hj,hl⟩
  refine⟨fun j o hj=>?_,fun a b ha hb he=>hs.inj a b (hlv a ha) (hlv b hb) he,fun j hj=>hs.imm j (hlv j hj),hs.lt,fun j hj=>hs.mine j (hlv j hj),hs.frame⟩
  rw[apH1] at hj
  split at hj
  ·rename_i ej
   subst ej
   cases hj
   exact⟨hU,hsl⟩
  ·exact hs.ob j o hj
 ·have hlk:jF E H k:=⟨_,hk,hlive⟩
  have hle:En.Le U U E (E.addI (E.ρ k)) w w:=⟨fun _ h=>h,fun _ _=>rfl,fun _ _=>rfl,fun _ h=>.inl h,fun _ _=>rfl,fun _ _=>rfl⟩
  have hsl:wS (E.addI (E.ρ k)).I w t.size (zG (E.addI (E.ρ k)).I w t) l (E.sv k) :=
   pA hown (zZ.mono hle.imm hle.heap _ _ _ hf) (fun b hb=>by
    rcases hsv with h0 |⟨cap,h0⟩
    ·exact absurd h0 hlive
    ·rw[h0] at hb;cases hb;exact .inr rfl)
  refine⟨E.addI (E.ρ k),hle,?_,fun b hb=>?_,hsl⟩
  ·have hlv:∀j,jF (E.addI (E.ρ k)) (apH H [(k,some (.frz t l))]) j->jF E H j/\j≠k:=by
    rintro j ⟨o,hj,hl⟩
    rw[apH1] at hj
    split at hj
    ·cases hj;exact hl.elim
    ·exact⟨⟨o,hj,Ob.xI rfl hl⟩,‹_›⟩
   refine⟨fun j o hj=>?_,fun a b ha hb he=>hs.inj a b (hlv a ha).1 (hlv b hb).1 he,fun j hj=>?_,?_,fun j hj=>hs.mine j (hlv j hj).1,hs.frame⟩
   ·rw[apH1] at hj
    split at hj
    ·rename_i ej
     subst ej
     cases hj
     exact⟨hU,hsl⟩
    ·obtain⟨h1,h2⟩:=hs.ob j o hj
     exact⟨h1,h2.mono hle h1 fun _=>rfl⟩
   ·rintro (hx |hx)
    ·exact hs.imm j (hlv j hj).1 hx
    ·exact (hlv j hj).2 (hs.inj j k (hlv j hj).1 hlk hx)
   ·rintro b (hb |hb)
    ·exact hs.lt b hb
    ·rw[hb];exact hs.jV hlk
  ·rcases hb with hb |hb
   ·exact .inl hb
   ·exact .inr (.inl ⟨k,hlk,hb.symm⟩)
def immOf(H:Hp):SV->Option ((t:Ty) × List t.den)
 |.sl t l=>some ⟨t,l⟩
 |.own k=>match H k with
  |some (.frz t l)=>some ⟨t,l⟩
  |_=>none
 |_=>none
theorem immOf_ok{w0:World}{M:Nat->Prop}{E:En}{U:Nat->Bool}{H:Hp}{w:World}(hs:HSat w0 M E U H w) {x:SV}{v:Value}(hx:Rep E U w x v) {t:Ty}{l:List t.den}(h:immOf H x=some ⟨t,l⟩) :
  wS E.I w t.size (zG E.I w t) l v:=by
 cases x with
 |sl t' l' =>
  cases h
  unfold Rep at hx
  obtain⟨u,hu,hr⟩:=hx
  cases hu
  exact hr
 |own k=>
  simp only[immOf] at h
  split at h<;>try (cases h;done)
  rename_i hk
  cases h
  unfold Rep at hx
  rw[hx.2.1]
  exact (hs.ob k _ hk).2
 |_=>cases h
def bndOf(d:Int):Option SV->Option Int
 |none=>some d
 |some (.int _ i)=>some i
 |_=>none
def kI(P:Program)(H:Hp)(t:TypeId)(x:SV)(lo hi:Option SV):Option Eff :=
 match P.underlying t with
 |some (.slice e)=>match xT P e,immOf H x with
  |some n,some ⟨ty,l⟩=>match bndOf 0 lo,bndOf l.length hi with
   |some i,some j=>if Nat.beq ty.size n then some { need:=some (0<=i/\i<=j/\j<=(l.length:Int)),res:=.sl ty ((l.take j.toNat).drop i.toNat) } else none
   |_,_=>none
  |_,_=>none
 |_=>none
def semSliceA(P:Program)(H:Hp)(t:TypeId)(lo hi:Bool)(args:List SV):Option Eff :=
 match lo,hi,args with
 |false,false,[x]=>kI P H t x none none
 |true,false,[x,a]=>kI P H t x (some a) none
 |false,true,[x,b]=>kI P H t x none (some b)
 |true,true,[x,a,b]=>kI P H t x (some a) (some b)
 |_,_,_=>none
theorem semSlice_run{P:Program}{H:Hp}{t:TypeId}{x:SV}{lo hi:Option SV}{eff:Eff}(h:kI P H t x lo hi=some eff) {w0:World}{M:Nat->Prop}{E:En}{U:Nat->Bool}{w:World}(hs:HSat w0 M E U H w) {v:Value}(hx:Rep E U w x v)
  {vl vh:Option Value}(hl:(lo=none/\vl=none)\/∃a u,lo=some a/\vl=some u/\Rep E U w a u) (hh:(hi=none/\vh=none)\/∃a u,hi=some a/\vh=some u/\Rep E U w a u) (hn:eff.nd) :
  eff.news=[]/\eff.upd=[]/\∃r,(Instr.sliceAt t v vl vh none).run P w = .ok r w/\Rep E U w eff.res r:=by
 unfold kI at h
 split at h<;>try (cases h;done)
 rename_i e hu
 split at h<;>try (cases h;done)
 rename_i n ty l hn' himm
 split at h<;>try (cases h;done)
 rename_i i j hi' hj'
 split at h<;>try (cases h;done)
 rename_i hsz
 cases h
 obtain⟨h0,h1,h2⟩:0<=i/\i<=j/\j<=(l.length:Int):=hn
 refine⟨rfl,rfl,?_⟩
 have hsz':=nbT hsz
 obtain⟨p,cap,rfl,hcap,hel⟩:=immOf_ok hs hx himm
 have elo:(match vl with |some v=>Instr.sliceBound v j.toNat .sliceB |none=>pure 0:Sem Nat).run P w = .ok i.toNat w:=by
  rcases hl with⟨rfl,rfl⟩ |⟨a,u,rfl,rfl,ha⟩
  ·cases hi';rfl
  ·cases a with
   |int k m=>
    simp only[bndOf,Option.some.injEq] at hi'
    subst hi'
    unfold Rep at ha
    subst ha
    exact run_sliceBound w k m j.toNat _ h0 (by omega)
   |_=>simp[bndOf] at hi'
 have ehi:(match vh with |some v=>Instr.sliceBound v cap .sliceAcap |none=>pure l.length:Sem Nat).run P w = .ok j.toNat w:=by
  rcases hh with⟨rfl,rfl⟩ |⟨a,u,rfl,rfl,ha⟩
  ·simp only[bndOf,Option.some.injEq] at hj'
   rw[<- hj'];rfl
  ·cases a with
   |int k m=>
    simp only[bndOf,Option.some.injEq] at hj'
    subst hj'
    unfold Rep at ha
    subst ha
    exact run_sliceBound w k m cap _ (by omega) (by omega)
   |_=>simp[bndOf] at hj'
 have hb:(Instr.sliceBounds true l.length cap vl vh none).run P w = .ok (i.toNat,j.toNat,cap) w:=by
  unfold Instr.sliceBounds
  cases vh with
  |none=>
   cases vl with
   |none=>simp at elo ehi ⊢;exact⟨elo,ehi⟩
   |some u=>simp at elo ehi ⊢;simp[ehi,elo]
  |some q=>
   cases vl with
   |none=>simp at elo ehi ⊢;simp[ehi,elo]
   |some u=>simp at elo ehi ⊢;simp[ehi,elo]
 have hrun:(Instr.sliceAt t (.slice p l.length cap) vl vh none).run P w = .ok (.slice (if cap=i.toNat then p else p.map (·.add (i.toNat*n))) (j.toNat - i.toNat) (cap - i.toNat)) w:=by
  simp[Instr.sliceAt,Instr.slice,run_underlying hu,hb,vE hn']
 refine⟨_,hrun,?_⟩
 have hlen:((l.take j.toNat).drop i.toNat).length=j.toNat - i.toNat:=by
  rw[List.length_drop,List.length_take];omega
 unfold Rep
 refine⟨_,rfl,(if cap=i.toNat then p else p.map (·.add (i.toNat*n))),cap - i.toNat,by rw[hlen],by omega,?_⟩
 by_cases hij:i.toNat=j.toNat
 ·left
  exact List.eq_nil_of_length_eq_zero (by omega)
 ·right
  rcases hel with hel |⟨b,o,rfl,hb',hel⟩
  ·rw[hel] at h2;simp at h2;omega
  ·refine⟨b,o+i.toNat*n,?_,hb',fun k d hd=>?_⟩
   ·rw[if_neg (by omega)]
    simp[y_]
   ·have hk:l[i.toNat+k]? = some d:=by
     rw[List.getElem?_drop,List.getElem?_take] at hd
     split at hd
     ·exact hd
     ·cases hd
    obtain⟨cs,h3,h4⟩:=hel _ _ hk
    refine⟨cs,?_,h4⟩
    rw[<- hsz',Nat.add_assoc,<- Nat.add_mul]
    exact h3
theorem semSlice_ok{P:Program}{H:Hp}{o:Oper}{t:TypeId}{x:Operand}{lo hi:Option Operand}{args:List SV}{eff:Eff}(ho:o.op = .slice t x lo hi none) (h:semSliceA P H t lo.isSome hi.isSome args=some eff):zS P o args H eff:=by
 have main:∀(a:SV)(l h' : Option SV),kI P H t a l h'=some eff->(∀(E:En)(U:Nat->Bool)(w:World)(ρv:Operand->Value),zA E U w args (o.op.operands.toList.map ρv)->Rep E U w a (ρv x)/\((l=none/\lo.map ρv=none)\/∃c u,l=some c/\lo.map ρv=some u/\Rep E U w c u)/\((h'=none/\hi.map ρv=none)\/∃c u,h'=some c/\hi.map ρv=some u/\Rep E U w c u))->zS P o args H eff:=by
  intro a l h' hsem hargs w0 M E U w ρv hs hr hnews hnd
  obtain⟨a1,a2,a3⟩:=hargs E U w ρv hr
  obtain⟨e1,e2,r,hrun,hrep⟩:=semSlice_run hsem hs a1 a2 a3 hnd
  rw[e1,e2,vC,apH_nil]
  refine yA.value (v:=r) (w':=w) ?_ ⟨E,En.Le.refl U E w,hs,vZ.refl rfl H w,hrep⟩
  unfold execOp
  simp only[ho]
  simp[hrun]
 unfold semSliceA at h
 split at h<;>try (cases h;done)
 all_goals rename_i hlo hhi
 ·rename_i a
  refine main _ none none h fun E U w ρv hr=>?_
  cases lo<;>cases hi<;>simp at hlo hhi
  simp only[ho,Op.operands] at hr
  obtain⟨v,hv,h1⟩:=pT hr
  simp at hv
  subst hv
  exact⟨h1,.inl ⟨rfl,rfl⟩,.inl ⟨rfl,rfl⟩⟩
 ·rename_i a b
  cases lo<;>cases hi<;>simp at hlo hhi
  refine main _ (some b) none h fun E U w ρv hr=>?_
  simp only[ho,Op.operands] at hr
  obtain⟨v,u,hv,h1,h2⟩:=vD hr
  simp at hv
  obtain⟨rfl,rfl⟩:=hv
  exact⟨h1,.inr ⟨_,_,rfl,rfl,h2⟩,.inl ⟨rfl,rfl⟩⟩
 ·rename_i a b
  cases lo<;>cases hi<;>simp at hlo hhi
  refine main _ none (some b) h fun E U w ρv hr=>?_
  simp only[ho,Op.operands] at hr
  obtain⟨v,u,hv,h1,h2⟩:=vD hr
  simp at hv
  obtain⟨rfl,rfl⟩:=hv
  exact⟨h1,.inl ⟨rfl,rfl⟩,.inr ⟨_,_,rfl,rfl,h2⟩⟩
 ·rename_i a b c
  cases lo<;>cases hi<;>simp at hlo hhi
  refine main _ (some b) (some c) h fun E U w ρv hr=>?_
  simp only[ho,Op.operands] at hr
  obtain⟨v,u,z,hv,h1,h2,h3⟩:=repL3 hr
  simp at hv
  obtain⟨rfl,rfl,rfl⟩:=hv
  exact⟨h1,.inr ⟨_,_,rfl,rfl,h2⟩,.inr ⟨_,_,rfl,rfl,h3⟩⟩
mutual
def vW:SV->List Nat
 |.ptr k _=>[k]
 |.own k=>[k]
 |.oel k _ _ _=>[k]
 |.sub k _ _ _=>[k]
 |.bsl k _=>[k]
 |.yld k=>[k]
 |.mp k=>[k]
 |.big cs=>wX cs
 |.agg cs=>wX cs
 |.tup cs=>wX cs
 |.fn _ cs=>wX cs
 |_=>[]
def wX:List SV->List Nat
 | []=>[]
 |c::cs=>vW c++wX cs
end
mutual
def vw(H:Hp):SV->SV
 |.own k=>match H k with
  |some (.row _ t l)=>.sl t l
  |some (.frz t l)=>.sl t l
  |some (.nw _ t l)=>.sl t l
  |_=>.own k
 |.agg cs=>.agg (vwL H cs)
 |.tup cs=>.tup (vwL H cs)
 |s=>s
def vwL(H:Hp):List SV->List SV
 | []=>[]
 |c::cs=>vw H c::vwL H cs
end
def qU:Option Ob->Option Ob
 |some (.row _ t l)=>some (.frz t l)
 |o=>o
def pC(H:Hp):List Nat->List (Nat × Option Ob)
 | []=>[]
 |k::r=>match H k with
  |some (.row _ t l)=>(k,some (.frz t l))::pC H r
  |_=>pC H r
theorem frzUpd_at(H:Hp):∀(ids:List Nat)(k:Nat),apH H (pC H ids) k=if k∈ids then qU (H k) else H k
 | [],k=>by simp[pC,apH]
 |j::r,k=>by
  have ih:=frzUpd_at H r k
  unfold pC
  split
  ·rename_i e t l hj
   show (bif Nat.beq k j then some (Ob.frz t l) else apH H (pC H r) k)=_
   by_cases h:k=j
   ·subst h
    simp[Nat.beq_refl,hj,qU]
   ·have hb:Nat.beq k j=false:=by
     cases hb:Nat.beq k j
     ·rfl
     ·exact absurd (nbT hb) h
    rw[hb,cond_false,ih]
    simp[h]
  ·rename_i hno
   rw[ih]
   by_cases h:k=j
   ·subst h
    have:qU (H k)=H k:=by
     cases hk:H k with
     |none=>rfl
     |some o=>cases o with
      |row e t l=>exact absurd hk (hno e t l)
      |_=>rfl
    simp only[List.mem_cons,true_or,if_true,this]
    split<;>rfl
   ·simp[h]
theorem HSat.congr{w0:World}{M:Nat->Prop}{E:En}{U:Nat->Bool}{H H' : Hp}{w:World}(h:H=H') (hs:HSat w0 M E U H w):HSat w0 M E U H' w:=h ▸ hs
theorem HSat.wC{w0:World}{M:Nat->Prop}{U:Nat->Bool}{w:World}:∀(ids:List Nat)(E:En)(H:Hp),HSat w0 M E U H w ->
  ∃E',En.Le U U E E' w w/\HSat w0 M E' U (fun k=>if k∈ids then qU (H k) else H k) w/\(∀b,E'.I b->E.I b\/Mof E H b)
 | [],E,H,hs=>⟨E,En.Le.refl U E w,HSat.congr (by funext k;simp) hs,fun b hb=>.inl hb⟩
 |j::r,E,H,hs=>by
  have fM:∀{o:Option Ob},qU o=o->H j=o->H=fun k=>if k=j then qU (H k) else H k:=by
   intro o ho hj
   funext k
   by_cases e:k=j
   ·subst e
    simp[hj,ho]
   ·simp[e]
  have step:∃E',En.Le U U E E' w w/\HSat w0 M E' U (fun k=>if k=j then qU (H k) else H k) w/\(∀b,E'.I b->E.I b\/Mof E H b):=by
   cases hj:H j with
   |none=>exact⟨E,En.Le.refl U E w,HSat.congr (fM rfl hj) hs,fun b hb=>.inl hb⟩
   |some o=>
    cases o with
    |row e t l=>
     obtain⟨E',h1,h2,h3,_⟩:=hs.freeze hj
     refine⟨E',h1,HSat.congr ?_ h2,fun b hb=>?_⟩
     ·funext k
      by_cases e' : k=j
      ·subst e'
       rw[apH1]
       simp[hj,qU]
      ·rw[apH1]
       simp[e']
     ·rcases h3 b hb with h |h |h
      ·exact .inl h
      ·exact .inr h
      ·exact .inl (by
        exfalso
        have:=h2.lt b hb
        omega)
    |box cs=>exact⟨E,En.Le.refl U E w,HSat.congr (fM rfl hj) hs,fun b hb=>.inl hb⟩
    |frz t l=>exact⟨E,En.Le.refl U E w,HSat.congr (fM rfl hj) hs,fun b hb=>.inl hb⟩
    |clip t l=>exact⟨E,En.Le.refl U E w,HSat.congr (fM rfl hj) hs,fun b hb=>.inl hb⟩
    |nw x t l=>exact⟨E,En.Le.refl U E w,HSat.congr (fM rfl hj) hs,fun b hb=>.inl hb⟩
    |rnd p=>exact⟨E,En.Le.refl U E w,HSat.congr (fM rfl hj) hs,fun b hb=>.inl hb⟩
    |mp es=>exact⟨E,En.Le.refl U E w,HSat.congr (fM rfl hj) hs,fun b hb=>.inl hb⟩
    |hole e vs i x=>exact⟨E,En.Le.refl U E w,HSat.congr (fM rfl hj) hs,fun b hb=>.inl hb⟩
  obtain⟨E1,h1,h2,h3⟩:=step
  obtain⟨E2,h4,h5,h6⟩:=HSat.wC r E1 _ h2
  refine⟨E2,h1.trans h4,HSat.congr ?_ h5,fun b hb=>?_⟩
  ·funext k
   simp only[List.mem_cons]
   by_cases hk:k=j
   ·subst hk
    have:qU (qU (H k))=qU (H k):=by cases h:H k with |none=>rfl |some o=>cases o<;>rfl
    simp only[if_true,true_or]
    split
    ·exact this
    ·rfl
   ·simp[hk]
  ·rcases h6 b hb with h |⟨k,⟨o,hk,hl⟩,he⟩
   ·exact h3 b h
   ·right
    have hU:=(h2.ob k o hk).1
    rw[h1.rho k hU] at he
    have hl':=Ob.xI (h1.sv k hU) hl
    replace hk:(if k=j then qU (H k) else H k)=some o:=hk
    split at hk
    ·rename_i e
     subst e
     cases ho:H k with
     |none=>rw[ho] at hk;cases hk
     |some o' =>
      rw[ho] at hk
      cases o' with
      |row e t l=>cases hk;exact hl'.elim
      |box cs=>cases hk;exact⟨k,⟨_,ho,hl'⟩,he⟩
      |rnd p=>cases hk;exact⟨k,⟨_,ho,hl'⟩,he⟩
      |mp es=>cases hk;exact⟨k,⟨_,ho,hl'⟩,he⟩
      |hole e vs i x=>cases hk;exact⟨k,⟨_,ho,hl'⟩,he⟩
      |frz t l=>cases hk;exact hl'.elim
      |clip t l=>cases hk;exact hl'.elim
      |nw x t l=>cases hk;exact hl'.elim
    ·exact⟨k,⟨o,hk,hl'⟩,he⟩
mutual
theorem vw_rep{w0:World}{M:Nat->Prop}{E:En}{U:Nat->Bool}{H H' : Hp}{w:World}(hs:HSat w0 M E U H' w):∀(s:SV)(v:Value),(∀k∈vW s,H' k=qU (H k))->Rep E U w s v->Rep E U w (vw H s) v
 |.own k,v,hk,h=>by
  have hk':=hk k (by simp[vW])
  unfold vw
  unfold Rep at h
  split
  ·rename_i e t l ho
   rw[ho] at hk'
   have:=(hs.ob k _ hk').2
   unfold Rep
   exact⟨v,rfl,by rw[h.2.1];exact this⟩
  ·rename_i t l ho
   rw[ho] at hk'
   have:=(hs.ob k _ hk').2
   unfold Rep
   exact⟨v,rfl,by rw[h.2.1];exact this⟩
  ·rename_i x t l ho
   rw[ho] at hk'
   have:=(hs.ob k _ hk').2
   unfold Rep
   exact zG.mono (I:=fun b=>E.I b/\E.ρ x<=b) (fun b hb=>hb.1) (fun _ _=>rfl) (.sl t) l [v] ⟨v,rfl,by rw[h.2.1];exact this.2⟩
  ·unfold Rep;exact h
 |.agg cs,v,hk,h=>by unfold vw;unfold Rep at *;obtain⟨vs,e,hl⟩:=h;exact⟨vs,e,fX hs cs vs (fun k hk' =>hk k (by simpa[vW] using hk')) hl⟩
 |.tup cs,v,hk,h=>by unfold vw;unfold Rep at *;obtain⟨vs,e,hl⟩:=h;exact⟨vs,e,fX hs cs vs (fun k hk' =>hk k (by simpa[vW] using hk')) hl⟩
 |.any,_,_,h=>h
 |.int _ _,_,_,h=>h
 |.bool _,_,_,h=>h
 |.str _,_,_,h=>h
 |.sl _ _,_,_,h=>h
 |.osl _ _,_,_,h=>h
 |.nsl _ _ _,_,_,h=>h
 |.sub _ _ _ _,_,_,h=>h
 |.bsl _ _,_,_,h=>h
 |.adr _ _,_,_,h=>h
 |.nils,_,_,h=>h
 |.nilp,_,_,h=>h
 |.fn _ _,_,_,h=>h
 |.yld _,_,_,h=>h
 |.mp _,_,_,h=>h
 |.arr _ _ _,_,_,h=>h
 |.big _,_,_,h=>h
 |.ptr _ _,_,_,h=>h
 |.oel _ _ _ _,_,_,h=>h
theorem fX{w0:World}{M:Nat->Prop}{E:En}{U:Nat->Bool}{H H' : Hp}{w:World}(hs:HSat w0 M E U H' w):∀(s:List SV)(v:List Value),(∀k∈wX s,H' k=qU (H k))->zA E U w s v->zA E U w (vwL H s) v
 | [],_,_,h=>by unfold vwL;exact h
 |c::cs,v,hk,h=>by
  unfold vwL
  unfold zA at *
  obtain⟨u,r,e,h1,h2⟩:=h
  exact⟨u,r,e,vw_rep hs c u (fun k hk' =>hk k (by simp[wX,hk'])) h1,fX hs cs r (fun k hk' =>hk k (by simp[wX,hk'])) h2⟩
end
def Eff.frz(H:Hp)(args:List SV)(eff:Eff):Eff:={ eff with upd:=eff.upd++pC H (wX args) }
theorem apH_append'(H:Hp):∀(a b:List (Nat × Option Ob)),apH H (a++b)=apH (apH H b) a
 | [],b=>rfl
 |(k,o)::r,b=>by
  funext j
  show (bif Nat.beq j k then o else apH H (r++b) j)=(bif Nat.beq j k then o else apH (apH H b) r j)
  rw[apH_append' H r b]
theorem zS.frz{P:Program}{o:Oper}{args:List SV}{H:Hp}{eff:Eff}(h:zS P o (vwL H args) (apH H (pC H (wX args))) eff):zS P o args H (eff.frz H args):=by
 intro w0 M E U w ρv hs hr hn hnd
 obtain⟨E1,hle1,hs1,hfr⟩:=hs.wC (wX args) E H
 have he:(fun k=>if k∈wX args then qU (H k) else H k)=apH H (pC H (wX args)):=by
  funext k
  rw[frzUpd_at]
 have hv:=fX (H:=H) hs1 args _ (fun k hk=>by simp[hk]) (zA.mono hle1 _ _ hr)
 rw[he] at hs1
 refine (h w0 M E1 U w ρv hs1 hv hn hnd).mono ?_
 rintro v w' ⟨E2,h1,h2,h3,h4⟩
 refine⟨E2,hle1.trans h1,?_,fun b hb=>?_,h4⟩
 ·show HSat w0 M E2 _ (apH H (eff.upd++pC H (wX args))) w'
  rw[apH_append']
  exact h2
 ·rcases h3 b hb with h |h |h
  ·rcases hfr b h with h |h
   ·exact .inl h
   ·exact .inr (.inl h)
  ·obtain⟨k,⟨ob,hk,hl⟩,hb'⟩:=h
   have hU:=(hs1.ob k ob hk).1
   rw[hle1.rho k hU] at hb'
   have hl':=Ob.xI (hle1.sv k hU) hl
   rw[frzUpd_at] at hk
   right;left
   split at hk
   ·cases ho:H k with
    |none=>rw[ho] at hk;cases hk
    |some o' =>
     rw[ho] at hk
     cases o' with
     |row e t l=>cases hk;exact hl'.elim
     |box cs=>cases hk;exact⟨k,⟨_,ho,hl'⟩,hb'⟩
     |rnd p=>cases hk;exact⟨k,⟨_,ho,hl'⟩,hb'⟩
     |mp es=>cases hk;exact⟨k,⟨_,ho,hl'⟩,hb'⟩
     |hole e vs i x=>cases hk;exact⟨k,⟨_,ho,hl'⟩,hb'⟩
     |frz t l=>cases hk;exact hl'.elim
     |clip t l=>cases hk;exact hl'.elim
     |nw x t l=>cases hk;exact hl'.elim
   ·exact⟨k,⟨ob,hk,hl'⟩,hb'⟩
  ·exact .inr (.inr h)
def semLitF(P:Program)(H:Hp)(id:Nat)(t:TypeId)(len:Nat)(parts:List Nat)(args:List SV):Option Eff :=
 match semLit P id t len parts args with
 |some eff=>some eff
 |none=>(semLit P id t len parts (vwL H args)).map (Eff.frz H args)
theorem semLitF_ok{P:Program}{H:Hp}{o:Oper}{t:TypeId}{len id:Nat}{parts:Array (Nat × Operand)}{args:List SV}{eff:Eff}(ho:o.op = .buildSlice t len parts) (h:semLitF P H id t len (parts.toList.map (·.1)) args=some eff):zS P o args H eff:=by
 unfold semLitF at h
 split at h
 ·rename_i e he
  cases h
  exact semLit_ok ho he
 ·rw[Option.map_eq_some_iff] at h
  obtain⟨e,he,rfl⟩:=h
  exact zS.frz (semLit_ok ho he)
def semBuildF(P:Program)(H:Hp)(t:TypeId)(parts:List Nat)(args:List SV):Option Eff :=
 match pC H (wX args) with
 | []=>semBuild P t parts args
 |_=>(semBuild P t parts (vwL H args)).map (Eff.frz H args)
theorem semBuildF_ok{P:Program}{H:Hp}{o:Oper}{t:TypeId}{parts:Array (Nat × Operand)}{args:List SV}{eff:Eff}(ho:o.op = .build t parts) (h:semBuildF P H t (parts.toList.map (·.1)) args=some eff):zS P o args H eff:=by
 unfold semBuildF at h
 split at h
 ·exact semBuild_ok ho h
 ·rw[Option.map_eq_some_iff] at h
  obtain⟨e,he,rfl⟩:=h
  exact zS.frz (semBuild_ok ho he)
def semTrunc(P:Program)(H:Hp)(id:Nat)(t:TypeId)(k:Nat)(n:Int):Option Eff :=
 match P.underlying t with
 |some (.slice e)=>match xT P e,H k with
  |some sz,some (.row e' ty l)=>if Nat.beq ty.size sz&&Nat.blt e' mkd then some { need:=some (0<=n/\n<=(l.length:Int)),res:=.own id,upd:=[(id,some (.row e' ty (l.take n.toNat))),(k,none)],news:=[id] } else none
  |_,_=>none
 |_=>none
theorem zZ.take{I:Nat->Prop}{w:World}{t:Ty}:∀{l:List t.den}{xs:List Value},zZ I w t l xs->∀n:Nat,zZ I w t (l.take n) (xs.take (n*t.size))
 | [],_,h,n=>by rw[show _=_ from h];simp[zZ]
 |d::l,_,h,0=>by simp[zZ]
 |d::l,_,h,n+1=>by
  obtain⟨a,b,e,h1,h2⟩:=h
  have hl:=zG.length t d a h1
  rw[e,List.take_succ_cons,show (n+1)*t.size=a.length+n*t.size by rw[hl,Nat.succ_mul];omega,List.take_length_add_append]
  exact⟨a,_,rfl,h1,zZ.take h2 n⟩
theorem semTrunc_ok{P:Program}{H:Hp}{o:Oper}{t:TypeId}{x y:Operand}{id k:Nat}{ik:IntKind}{n:Int}{eff:Eff}(ho:o.op = .slice t x none (some y) none) (h:semTrunc P H id t k n=some eff):zS P o [.own k,.int ik n] H eff:=by
 unfold semTrunc at h
 split at h<;>try (cases h;done)
 rename_i e hu
 split at h<;>try (cases h;done)
 rename_i sz e' ty l hszo hk
 split at h<;>try (cases h;done)
 rename_i hsz
 obtain⟨hsz,hpl⟩:=Bool.and_eq_true _ _ ▸ hsz
 cases h
 have hsz':=nbT hsz
 intro w0 M E U w ρv hs hr hn hneed
 obtain⟨n0,n1⟩:0<=n/\n<=(l.length:Int):=hneed
 have hops:o.op.operands.toList.map ρv=[ρv x,ρv y]:=by simp[ho,Op.operands]
 rw[hops] at hr
 obtain⟨u,v,huv,h1,h2⟩:=vD hr
 cases huv
 obtain⟨hUk,ys,hown,hfl,hsv⟩:=hs.ob k _ hk
 replace hown:=hown.plain hpl
 unfold Rep at h1 h2
 have hid:U id=false:=hn id (by simp)
 have hne:k≠id:=fun e=>by rw[e,hid] at hUk;cases hUk
 have hsd:=hs.drop k
 have hrunS:∀p cap,l.length<=cap->(Instr.sliceAt t (.slice p l.length cap) none (some (.int ik n)) none).run P w = .ok (.slice (if cap=0 then p else p.map (·.add (0*sz))) n.toNat cap) w:=by
  intro p cap hcap
  have e1:=run_sliceBound (P:=P) w ik n cap .sliceAcap n0 (by omega)
  have e2:(Instr.sliceBounds true l.length cap none (some (.int ik n)) none).run P w = .ok (0,n.toNat,cap) w:=by
   unfold Instr.sliceBounds
   simp[e1]
  simp[Instr.sliceAt,Instr.slice,run_underlying hu,e2,vE hszo]
 have hlt:(l.take n.toNat).length=n.toNat:=by rw[List.length_take];omega
 have hfl':=hfl.take n.toNat
 obtain⟨hyl,hown2⟩:=hown
 rcases hown2 with⟨h3,hl0⟩ |⟨g,cap,cur,h3,hbg,hg,hnc,hcm,hcs,htake⟩
 ·-- nil
  have hle0:l=[]:=List.eq_nil_of_length_eq_zero hl0
  subst hle0
  have hn0:n.toNat=0:=by simp at n1;omega
  have hrun:=hrunS none 0 (by simp)
  rw[hn0] at hrun
  have hx:ρv x = .slice none 0 0:=h1.2.1.trans h3
  have hle:=qM (H:=H) hs hid (w':=w) (fun _ _=>rfl) 0 (.slice none 0 0)
  refine yA.value (v:=.slice none 0 0) (w':=w) ?_ ⟨E.setRow id 0 (.slice none 0 0),hle,?_,fun b hb=>.inl hb,?_⟩
  ·unfold execOp
   simp only[ho]
   simp at hrun
   simp[hx,h2,hrun]
  ·refine HSat.add' hsd hid hs.frame (Nat.le_refl _) rfl hle (fun _ _=>rfl) (fun hl=>?_) ⟨[],⟨by simp,.inl ⟨by simp[En.setRow],by simp⟩⟩,by simp[zZ],.inl (by simp[En.setRow])⟩
   exact absurd (by simp[En.setRow]) (show (E.setRow id 0 (.slice none 0 0)).sv id ≠ .slice none 0 0 from hl)
  ·unfold Rep
   exact⟨by rw[gD];simp,by simp[En.setRow],_,_,_,rfl⟩
 ·have hgk:g=E.ρ k:=by
   rcases hsv with h0 |⟨cap',h0⟩
   ·rw[h0] at h3;cases h3
   ·rw[h0] at h3;cases h3;rfl
  subst hgk
  have hrun:=hrunS (some ⟨E.ρ k,0,none⟩) cap hnc
  have hx:ρv x = .slice (some ⟨E.ρ k,0,none⟩) l.length cap:=h1.2.1.trans h3
  have ep:(if cap=0 then some (⟨E.ρ k,0,none⟩:Addr) else (some (⟨E.ρ k,0,none⟩:Addr)).map (·.add (0*sz)))=some ⟨E.ρ k,0,none⟩:=by
   split
   ·rfl
   ·simp[y_]
  rw[ep] at hrun
  have hlk:jF E H k:=⟨_,hk,by show E.sv k≠_;rw[h3];simp⟩
  have hImm:=hs.imm k hlk
  have hle:=qM (H:=H) hs hid (w':=w) (fun _ _=>rfl) (E.ρ k) (.slice (some ⟨E.ρ k,0,none⟩) n.toNat cap)
  refine yA.value (v:=.slice (some ⟨E.ρ k,0,none⟩) n.toNat cap) (w':=w) ?_ ⟨_,hle,?_,fun b hb=>.inl hb,?_⟩
  ·unfold execOp
   simp only[ho]
   simp[hx,h2,hrun]
  ·refine HSat.add' hsd hid hs.frame (Nat.le_refl _) rfl hle (fun _ _=>rfl) ?_ ⟨ys.take (n.toNat*ty.size),?_,zZ.mono hle.imm hle.heap _ _ _ hfl',.inr ⟨cap,by simp[En.setRow,hlt]⟩⟩
   ·intro _
    refine⟨fun j hj=>?_,?_,?_⟩
    ·obtain⟨hjk,hj'⟩:=HSat.dropNe hj
     simp only[En.setRow,if_true]
     exact fun e=>hjk (hs.inj j k hj' hlk e)
    ·simp only[En.setRow,if_true];exact hImm
    ·simp only[En.setRow,if_true];exact hs.mine k hlk
   ·refine ownR_of ⟨hfl'.length,.inr ⟨E.ρ k,cap,cur,by simp[En.setRow,hlt],Nat.zero_le _,hg,by omega,hcm,hcs,?_⟩⟩
    rw[<- htake,List.take_take,hlt]
    congr 1
    exact (Nat.min_eq_left (Nat.mul_le_mul_right _ (by omega))).symm
  ·unfold Rep
   exact⟨by rw[gD];simp,by simp[En.setRow],_,_,_,rfl⟩
def semClip(P:Program)(H:Hp)(id:Nat)(t:TypeId):List SV->Option Eff
 | [.sl ty l,.int _ n,.int _ n']=>match P.underlying t with
  |some (.slice e)=>match xT P e with
   |some sz=>if Nat.beq ty.size sz then some { need:=some (0<=n/\n<=(l.length:Int)/\n'=n),res:=.own id,upd:=[(id,some (.clip ty (l.take n.toNat)))],news:=[id] } else none
   |none=>none
  |_=>none
 |_=>none
theorem wS.take{α:Type}{I:Nat->Prop}{w:World}{sz:Nat}{R:α->List Value->Prop}{l:List α}{p:Option Addr}{cap:Nat}(h:wS I w sz R l (.slice p l.length cap)) {n:Nat}(hn:n<=l.length):wS I w sz R (l.take n) (.slice p n n):=by
 obtain⟨p',cap',e,hc,hh⟩:=h
 cases e
 have hl:(l.take n).length=n:=by rw[List.length_take];omega
 refine⟨p,n,by rw[hl],by rw[hl];exact Nat.le_refl _,?_⟩
 rcases hh with rfl |⟨b,o,hp,hb,hi⟩
 ·left;simp
 ·right
  refine⟨b,o,hp,hb,fun i d hd=>hi i d ?_⟩
  rw[List.getElem?_take] at hd
  split at hd
  ·exact hd
  ·cases hd
theorem semClip_ok{P:Program}{H:Hp}{o:Oper}{t:TypeId}{x y z:Operand}{id:Nat}{args:List SV}{eff:Eff}(ho:o.op = .slice t x none (some y) (some z)) (h:semClip P H id t args=some eff):zS P o args H eff:=by
 unfold semClip at h
 split at h<;>try (cases h;done)
 rename_i ty l ik n ik' n'
 split at h<;>try (cases h;done)
 rename_i e hu
 split at h<;>try (cases h;done)
 rename_i sz hszo
 split at h<;>try (cases h;done)
 rename_i hsz
 cases h
 have hsz':=nbT hsz
 intro w0 M E U w ρv hs hr hn hneed
 obtain⟨n0,n1,n2⟩:0<=n/\n<=(l.length:Int)/\n'=n:=hneed
 subst n2
 have hops:o.op.operands.toList.map ρv=[ρv x,ρv y,ρv z]:=by simp[ho,Op.operands]
 rw[hops] at hr
 unfold zA at hr
 obtain⟨u,r1,hu1,h1,hr⟩:=hr
 unfold zA at hr
 obtain⟨v,r2,hu2,h2,hr⟩:=hr
 unfold zA at hr
 obtain⟨v',r3,hu3,h3,hr⟩:=hr
 simp only[List.cons.injEq] at hu1
 obtain⟨hux,hr1⟩:=hu1
 rw[hu2] at hr1
 simp only[List.cons.injEq] at hr1
 obtain⟨huy,hr2⟩:=hr1
 rw[hu3] at hr2
 simp only[List.cons.injEq] at hr2
 obtain⟨huz,_⟩:=hr2
 unfold Rep at h1 h2 h3
 obtain⟨u',hu',hsl⟩:=h1
 cases hu'
 have hsl':=hsl
 obtain⟨p,cap,hv,hcap,_⟩:=hsl'
 subst hv
 have hid:U id=false:=hn id (by simp)
 have e1:(Instr.sliceBounds true l.length cap none (some (.int ik n')) (some (.int ik' n'))).run P w = .ok (0,n'.toNat,n'.toNat) w:=by
  have a1:=run_sliceBound (P:=P) w ik' n' cap .slice3Acap n0 (by omega)
  have a2:=run_sliceBound (P:=P) w ik n' n'.toNat .slice3B n0 (by omega)
  unfold Instr.sliceBounds
  simp[a1,a2]
 have hrun:(Instr.sliceAt t (.slice p l.length cap) none (some (.int ik n')) (some (.int ik' n'))).run P w = .ok (.slice p n'.toNat n'.toNat) w:=by
  simp[Instr.sliceAt,Instr.slice,run_underlying hu,e1,vE hszo]
  cases p<;>simp[Addr.add]
 have hle:=qM (H:=H) hs hid (w':=w) (fun _ _=>rfl) 0 (.slice p n'.toNat n'.toNat)
 have ht:=hsl.take (n:=n'.toNat) (by omega)
 have hlt:(l.take n'.toNat).length=n'.toNat:=by rw[List.length_take];omega
 refine yA.value (v:=.slice p n'.toNat n'.toNat) (w':=w) ?_ ⟨E.setRow id 0 (.slice p n'.toNat n'.toNat),hle,?_,fun b hb=>.inl hb,?_⟩
 ·unfold execOp
  simp only[ho]
  simp[hux,huy,huz,h2,h3,hrun]
 ·refine HSat.add' hs hid hs.frame (Nat.le_refl _) rfl hle (fun _ _=>rfl) (fun hl=>hl.elim) ⟨?_,p,by simp[En.setRow,hlt]⟩
  have:(E.setRow id 0 (.slice p n'.toNat n'.toNat)).sv id = .slice p n'.toNat n'.toNat:=by simp[En.setRow]
  rw[this]
  exact ht
 ·unfold Rep
  exact⟨by rw[gD];simp,by simp[En.setRow],_,_,_,rfl⟩
def semClipF(P:Program)(H:Hp)(id:Nat)(t:TypeId)(args:List SV):Option Eff:=(semClip P (apH H (pC H (wX args))) id t (vwL H args)).map (Eff.frz H args)
theorem semClipF_ok{P:Program}{H:Hp}{o:Oper}{t:TypeId}{x y z:Operand}{id:Nat}{args:List SV}{eff:Eff}(ho:o.op = .slice t x none (some y) (some z)) (h:semClipF P H id t args=some eff):zS P o args H eff:=by
 unfold semClipF at h
 rw[Option.map_eq_some_iff] at h
 obtain⟨e,he,rfl⟩:=h
 exact zS.frz (semClip_ok ho he)
def gV(P:Program)(H:Hp)(id:Nat)(t:TypeId)(lo hi:Bool)(args:List SV):Option Eff :=
 match lo,hi,args with
 |false,true,[.own k,.int ik n]=>match semTrunc P H id t k n with
  |some eff=>some eff
  |none=>semSliceA P H t false true [.own k,.int ik n]
 |lo,hi,args=>semSliceA P H t lo hi args
theorem pR{P:Program}{H:Hp}{o:Oper}{t:TypeId}{x:Operand}{lo hi:Option Operand}{id:Nat}{args:List SV}{eff:Eff}(ho:o.op = .slice t x lo hi none) (h:gV P H id t lo.isSome hi.isSome args=some eff):zS P o args H eff:=by
 unfold gV at h
 split at h
 ·rename_i hlo hhi
  split at h
  ·rename_i e he
   cases h
   cases lo<;>cases hi<;>simp at hlo hhi
   exact semTrunc_ok ho he
  ·exact semSlice_ok ho (by rw[hlo,hhi];exact h)
 ·exact semSlice_ok ho h
def semSub(P:Program)(H:Hp)(t:TypeId)(pre:Bool)(k:Nat)(n:Int):Option Eff :=
 match P.underlying t with
 |some (.slice e)=>match xT P e,H k with
  |some sz,some (.row _ ty l)=>if Nat.beq ty.size sz then some { need:=some (0<=n/\n<=(l.length:Int)),res:=bif pre then .sub k sz 0 n.toNat else .sub k sz n.toNat l.length } else none
  |_,_=>none
 |_=>none
theorem semSub_run{P:Program}{H:Hp}{t:TypeId}{k:Nat}{pre:Bool}{ik:IntKind}{n:Int}{eff:Eff}(h:semSub P H t pre k n=some eff) {w0:World}{M:Nat->Prop}{E:En}{U:Nat->Bool}{w:World}(hs:HSat w0 M E U H w) {v:Value}(hx:Rep E U w (.own k) v) (hn:eff.nd) :
  eff.news=[]/\eff.upd=[]/\∃r,(Instr.sliceAt t v (bif pre then none else some (.int ik n)) (bif pre then some (.int ik n) else none) none).run P w = .ok r w/\Rep E U w eff.res r:=by
 unfold semSub at h
 split at h<;>try (cases h;done)
 rename_i e hu
 split at h<;>try (cases h;done)
 rename_i sz e' ty l hszo hk
 split at h<;>try (cases h;done)
 rename_i hsz
 cases h
 obtain⟨n0,n1⟩:0<=n/\n<=(l.length:Int):=hn
 refine⟨rfl,rfl,?_⟩
 obtain⟨hUk,ys,hown,hfl,hsv⟩:=hs.ob k _ hk
 unfold Rep at hx
 have hv:∃p cap,E.sv k = .slice p l.length cap/\l.length<=cap:=by
  rcases hown.2 with⟨h3,h4⟩ |⟨g,cap,cur,ty,mk,h3,_,h4,_⟩
  ·exact⟨none,0,by rw[h3,h4],by omega⟩
  ·exact⟨_,cap,h3,h4⟩
 obtain⟨p,cap,hv,hc⟩:=hv
 rw[hx.2.1,hv]
 cases pre
 ·have e1:=run_sliceBound (P:=P) w ik n l.length .sliceB n0 (by omega)
  have e2:(Instr.sliceBounds true l.length cap (some (.int ik n)) none none).run P w = .ok (n.toNat,l.length,cap) w:=by
   unfold Instr.sliceBounds
   simp[e1]
  refine⟨.slice (if cap=n.toNat then p else p.map (·.add (n.toNat*sz))) (l.length - n.toNat) (cap - n.toNat),?_,?_⟩
  ·simp[Instr.sliceAt,Instr.slice,run_underlying hu,e2,vE hszo]
  ·show Rep E U w (.sub k sz n.toNat l.length) _
   unfold Rep
   exact⟨hx.1,_,_,_,hv,rfl⟩
 ·have e1:=run_sliceBound (P:=P) w ik n cap .sliceAcap n0 (by omega)
  have e2:(Instr.sliceBounds true l.length cap none (some (.int ik n)) none).run P w = .ok (0,n.toNat,cap) w:=by
   unfold Instr.sliceBounds
   simp[e1]
  refine⟨.slice (if cap=0 then p else p.map (·.add (0*sz))) (n.toNat - 0) (cap - 0),?_,?_⟩
  ·simp[Instr.sliceAt,Instr.slice,run_underlying hu,e2,vE hszo]
  ·show Rep E U w (.sub k sz 0 n.toNat) _
   unfold Rep
   exact⟨hx.1,_,_,_,hv,rfl⟩
theorem semSubP_ok{P:Program}{H:Hp}{o:Oper}{t:TypeId}{x y:Operand}{k:Nat}{ik:IntKind}{n:Int}{eff:Eff}(ho:o.op = .slice t x none (some y) none) (h:semSub P H t true k n=some eff):zS P o [.own k,.int ik n] H eff:=by
 intro w0 M E U w ρv hs hr hnews hnd
 have hops:o.op.operands.toList.map ρv=[ρv x,ρv y]:=by simp[ho,Op.operands]
 rw[hops] at hr
 obtain⟨u,v,huv,h1,h2⟩:=vD hr
 cases huv
 unfold Rep at h2
 obtain⟨e1,e2,r,hrun,hrep⟩:=semSub_run (ik:=ik) h hs h1 hnd
 rw[e1,e2,vC,apH_nil]
 refine yA.value (v:=r) (w':=w) ?_ ⟨E,En.Le.refl U E w,hs,vZ.refl rfl H w,hrep⟩
 unfold execOp
 simp only[ho]
 simp only[cond_true] at hrun
 simp[h2,hrun]
theorem semSubS_ok{P:Program}{H:Hp}{o:Oper}{t:TypeId}{x y:Operand}{k:Nat}{ik:IntKind}{n:Int}{eff:Eff}(ho:o.op = .slice t x (some y) none none) (h:semSub P H t false k n=some eff):zS P o [.own k,.int ik n] H eff:=by
 intro w0 M E U w ρv hs hr hnews hnd
 have hops:o.op.operands.toList.map ρv=[ρv x,ρv y]:=by simp[ho,Op.operands]
 rw[hops] at hr
 obtain⟨u,v,huv,h1,h2⟩:=vD hr
 cases huv
 unfold Rep at h2
 obtain⟨e1,e2,r,hrun,hrep⟩:=semSub_run (ik:=ik) h hs h1 hnd
 rw[e1,e2,vC,apH_nil]
 refine yA.value (v:=r) (w':=w) ?_ ⟨E,En.Le.refl U E w,hs,vZ.refl rfl H w,hrep⟩
 unfold execOp
 simp only[ho]
 simp only[cond_false] at hrun
 simp[h2,hrun]
def semGlue(P:Program)(H:Hp)(id:Nat)(ts:Array TypeId):SV->SV->Option Eff
 |.sub k s z i,.sub k' s' a j=>match ts[0]?,ts[1]? with
  |some t,some t' =>if Nat.beq t t'&&Nat.beq ts.size 2 then match P.underlying t with
   |some (.slice e)=>match P.info? e,H k with
    |some ie,some (.row e' ty l)=>if Nat.beq e e'&&Nat.blt e' mkd&&Nat.beq ty.size ie.size&&Nat.beq k k'&&Nat.beq s ie.size&&Nat.beq s' ie.size&&Nat.beq z 0 then
      some { need:=some (i<=a/\a<=l.length/\j=l.length),res:=.own id,upd:=[(id,some (.row e ty (l.take i++l.drop a))),(k,none)],news:=[id] } else none
    |_,_=>none
   |_=>none
   else none
  |_,_=>none
 |_,_=>none
theorem zZ.dropN{I:Nat->Prop}{w:World}{t:Ty}:∀{l:List t.den}{xs:List Value},zZ I w t l xs->∀n:Nat,zZ I w t (l.drop n) (xs.drop (n*t.size))
 | [],_,h,n=>by rw[show _=_ from h];simp[zZ]
 |d::l,_,h,0=>by simpa using h
 |d::l,_,h,n+1=>by
  obtain⟨a,b,e,h1,h2⟩:=h
  have hl:=zG.length t d a h1
  rw[e,List.drop_succ_cons,show (n+1)*t.size=a.length+n*t.size by rw[hl,Nat.succ_mul];omega,List.drop_length_add_append]
  exact zZ.dropN h2 n
theorem semGlue_ok{P:Program}{H:Hp}{o:Oper}{xs:Array Operand}{ts:Array TypeId}{id:Nat}{x y:SV}{eff:Eff}(ho:o.op = .call { callee:=.builtin .append,args:=xs,argTypes:=ts }) (h:semGlue P H id ts x y=some eff):zS P o [x,y] H eff:=by
 have ops:∀(ρv:Operand->Value),o.op.operands.toList.map ρv=(xs.map ρv).toList:=by
  intro ρv
  simp[ho,Op.operands,Call.operands]
 unfold semGlue at h
 split at h<;>try (cases h;done)
 rename_i k s z i k' s' a j
 split at h<;>try (cases h;done)
 rename_i t t' ht0 ht1
 split at h<;>try (cases h;done)
 rename_i hct
 simp only[Bool.and_eq_true] at hct
 have htt:=nbT hct.1
 subst htt
 have hts:ts = #[t,t]:=by
  have h2:=nbT hct.2
  apply Array.ext
  ·exact h2
  ·intro i hi1 hi2
   simp only[List.size_toArray,List.length_cons,List.length_nil] at hi2
   match i,hi2 with
   |0,_=>have:=ht0;rw[Array.getElem?_eq_getElem hi1] at this;simpa using this
   |1,_=>have:=ht1;rw[Array.getElem?_eq_getElem hi1] at this;simpa using this
 split at h<;>try (cases h;done)
 rename_i e hu
 split at h<;>try (cases h;done)
 rename_i ie e' ty l hie hk
 split at h<;>try (cases h;done)
 rename_i hb
 simp only[Bool.and_eq_true] at hb
 obtain⟨⟨⟨⟨⟨⟨b1,hpl⟩,b2⟩,b3⟩,b4⟩,b5⟩,b6⟩:=hb
 have hee:=nbT b1
 have hsz:=nbT b2
 have hkk:=nbT b3
 have hs1:=nbT b4
 have hs2:=nbT b5
 have hz:=nbT b6
 subst hee hkk hz hs1
 cases h
 have hszo:xT P e=some ie.size:=by simp[xT,hie]
 intro w0 M E U w ρv hs hr hn hneed
 rw[ops] at hr
 obtain⟨u,v,huv,h1,h2⟩:=vD hr
 have hxs:xs.map ρv = #[u,v]:=Array.ext' (by rw[huv])
 obtain⟨hia,hal,hj⟩:i<=a/\a<=l.length/\j=l.length:=hneed
 subst hj
 obtain⟨hUk,ys,hown,hfl,hsv⟩:=hs.ob k _ hk
 replace hown:=hown.plain hpl
 unfold Rep at h1 h2
 obtain⟨_,p,n,c,hv,hu1⟩:=h1
 obtain⟨_,p',n',c',hv',hu2⟩:=h2
 rw[hv] at hv'
 cases hv'
 subst hu1 hu2
 have hid:U id=false:=hn id (by simp)
 have hne:k≠id:=fun e=>by rw[e,hid] at hUk;cases hUk
 have hsd:=hs.drop k
 have hlt:(l.take i++l.drop a).length=i+(l.length - a):=by simp;omega
 have hfl' : zZ E.I w ty (l.take i++l.drop a) (ys.take (i*ty.size)++ys.drop (a*ty.size)):=(hfl.take i).append (hfl.dropN a)
 have hown':=hown
 obtain⟨hyl,hown2⟩:=hown
 rcases hown2 with⟨h3,hl0⟩ |⟨g,cap,cur,h3,hbg,hg,hnc,hcm,hcs,htake⟩
 ·-- nil
  have hle0:l=[]:=List.eq_nil_of_length_eq_zero hl0
  subst hle0
  have ha0:a=0:=by simpa using hal
  have hi0:i=0:=by omega
  subst ha0 hi0
  rw[h3] at hv
  cases hv
  have hle:=qM (H:=H) hs hid (w':=w) (fun _ _=>rfl) 0 (.slice none 0 0)
  have hrun:=wP hu hszo w o.type none none 0 0 0 (Nat.le_refl _)
  refine yA.value (v:=.slice none 0 0) (w':=w) (wJ ho hts ρv w w _ _ _ hxs (by simpa using hrun)) ⟨E.setRow id 0 (.slice none 0 0),hle,?_,fun b hb=>.inl hb,?_⟩
  ·refine HSat.add' hsd hid hs.frame (Nat.le_refl _) rfl hle (fun _ _=>rfl) (fun hl=>?_) ⟨[],⟨by simp,.inl ⟨by simp[En.setRow],by simp⟩⟩,by simp[zZ],.inl (by simp[En.setRow])⟩
   exact absurd (by simp[En.setRow]) (show (E.setRow id 0 (.slice none 0 0)).sv id ≠ .slice none 0 0 from hl)
  ·unfold Rep
   exact⟨by rw[gD];simp,by simp[En.setRow],_,_,_,rfl⟩
 ·have hgk:g=E.ρ k:=by
   rcases hsv with h0 |⟨cap',h0⟩
   ·rw[h0] at h3;cases h3
   ·rw[h0] at h3;cases h3;rfl
  subst hgk
  have ec:cap=c:=by rw[h3] at hv;cases hv;rfl
  have en:l.length=n:=by rw[h3] at hv;cases hv;rfl
  have epp:some ⟨E.ρ k,0,none⟩=p:=by rw[h3] at hv;cases hv;rfl
  subst ec en epp
  have ep:(if cap=0 then some (⟨E.ρ k,0,none⟩:Addr) else (some (⟨E.ρ k,0,none⟩:Addr)).map (·.add (0*ie.size)))=some ⟨E.ρ k,0,none⟩:=by
   split
   ·rfl
   ·simp[y_]
  rw[ep] at hxs
  have hlk:jF E H k:=⟨_,hk,by show E.sv k≠_;rw[h3];simp⟩
  have hImm:=hs.imm k hlk
  by_cases hal' : l.length=a
  ·-- nothing follows
   have hd:l.drop a=[]:=List.drop_eq_nil_of_le (by omega)
   have hyd:ys.drop (a*ty.size)=[]:=List.drop_eq_nil_of_le (by rw[hyl,hal'];exact Nat.le_refl _)
   rw[hd,hyd,List.append_nil,List.append_nil] at hfl'
   have hlt' : (l.take i).length=i:=by rw[List.length_take];omega
   have hle:=qM (H:=H) hs hid (w':=w) (fun _ _=>rfl) (E.ρ k) (.slice (some ⟨E.ρ k,0,none⟩) i cap)
   have hrun:(Builtin.append_ #[t,t] o.type #[.slice (some ⟨E.ρ k,0,none⟩) (i - 0) (cap - 0),.slice (if cap=a then some ⟨E.ρ k,0,none⟩ else (some ⟨E.ρ k,0,none⟩:Option Addr).map (·.add (a*s'))) (l.length - a) (cap - a)]).run P w = .ok (.slice (some ⟨E.ρ k,0,none⟩) i cap) w:=by
    have:=wP hu hszo w o.type (some ⟨E.ρ k,0,none⟩) (if cap=a then some ⟨E.ρ k,0,none⟩ else (some ⟨E.ρ k,0,none⟩:Option Addr).map (·.add (a*s'))) i cap (cap - a) (by omega)
    rw[show l.length - a=0 by omega]
    exact this
   refine yA.value (v:=.slice (some ⟨E.ρ k,0,none⟩) i cap) (w':=w) (wJ ho hts ρv w w _ _ _ hxs hrun) ⟨_,hle,?_,fun b hb=>.inl hb,?_⟩
   ·rw[hd,List.append_nil]
    refine HSat.add' hsd hid hs.frame (Nat.le_refl _) rfl hle (fun _ _=>rfl) ?_ ⟨ys.take (i*ty.size),?_,zZ.mono hle.imm hle.heap _ _ _ hfl',.inr ⟨cap,by simp[En.setRow,hlt']⟩⟩
    ·intro _
     refine⟨fun j hj=>?_,?_,?_⟩
     ·obtain⟨hjk,hj'⟩:=HSat.dropNe hj
      simp only[En.setRow,if_true]
      exact fun e=>hjk (hs.inj j k hj' hlk e)
     ·simp only[En.setRow,if_true];exact hImm
     ·simp only[En.setRow,if_true];exact hs.mine k hlk
    ·refine ownR_of ⟨hfl'.length,.inr ⟨E.ρ k,cap,cur,by simp[En.setRow,hlt'],Nat.zero_le _,hg,by omega,hcm,hcs,?_⟩⟩
     rw[<- htake,List.take_take,hlt']
     congr 1
     exact (Nat.min_eq_left (Nat.mul_le_mul_right _ (by omega))).symm
   ·unfold Rep
    exact⟨by rw[gD];simp,by simp[En.setRow],_,_,_,rfl⟩
  ·have hca:cap≠a:=by omega
   rw[if_neg hca] at hxs
   obtain⟨news,hnews'⟩:∃n,n=ys.drop (a*ty.size):=⟨_,rfl⟩
   have hfn:zZ E.I w ty (l.drop a) news:=hnews' ▸ hfl.dropN a
   have hnl:news.length=(l.length - a)*ie.size:=by rw[hfn.length,hsz,List.length_drop]
   have cells:=World.ownsRow.cells hown' (g:=E.ρ k) (by rw[h3];rfl)
   have hnews:∀j u,news[j]? = some u->w.cell? ((⟨E.ρ k,a*ie.size,none⟩:Addr).add j)=some u:=by
    intro j u hj
    rw[hnews',List.getElem?_drop] at hj
    have:=cells _ _ hj
    rw[y_] at this ⊢
    rw[hsz] at this
    simpa using this
   have hroom:i+(l.length - a)<=cap:=by omega
   have hfit:i*ie.size+news.length<=cur.size:=by rw[hnl,hcs,hsz,<- Nat.add_mul];exact Nat.mul_le_mul_right _ hroom
   have hrun:=run_append_room (P:=P) w t o.type e ie hu hie (E.ρ k) i cap cur hg ⟨E.ρ k,a*ie.size,none⟩ (l.length - a) (cap - a) news hnl hnews (zZ.one hfn) hroom hfit
   obtain⟨cur',hcur'⟩:∃c' : Array Value,c'=(cur.toList.take (i*ie.size)++news++cur.toList.drop (i*ie.size+news.length)).toArray:=⟨_,rfl⟩
   rw[<- hcur'] at hrun
   have ex : #[Value.slice (some ⟨E.ρ k,0,none⟩) (i - 0) (cap - 0),.slice ((some ⟨E.ρ k,0,none⟩:Option Addr).map (·.add (a*s'))) (l.length - a) (cap - a)] = #[.slice (some ⟨E.ρ k,0,none⟩) i cap,.slice (some ⟨E.ρ k,a*ie.size,none⟩) (l.length - a) (cap - a)]:=by
    rw[hs2]
    simp[y_]
   rw[ex] at hxs
   rw[<- hnews'] at hfl'
   have hle:=qM (H:=H) hs hid (w':=w.setRow (E.ρ k) cur') (fun b hb=>setRow_other w (E.ρ k) b cur' (fun e=>hImm (e ▸ hb))) (E.ρ k) (.slice (some ⟨E.ρ k,0,none⟩) (i+(l.length - a)) cap)
   refine yA.value (wJ ho hts ρv w _ _ _ _ hxs hrun) ⟨_,hle,?_,fun b hb=>.inl hb,?_⟩
   ·refine HSat.add' hsd hid ?_ (by simp) rfl hle ?_ ?_ ⟨ys.take (i*ty.size)++news,?_,zZ.mono hle.imm hle.heap _ _ _ hfl',.inr ⟨cap,by simp only[En.setRow,if_true];rw[hlt]⟩⟩
    ·have hf:=hs.frame
     refine⟨hf.os,hf.tape,hf.output,by simpa using hf.size,hf.drawn,fun b' hb' hm' =>?_⟩
     rw[setRow_other w _ _ cur']
     ·exact hf.block b' hb' hm'
     ·intro e'
      rcases hs.mine k hlk with h |h
      ·exact hm' (e' ▸ h)
      ·omega
    ·intro j hj
     obtain⟨hjk,hj'⟩:=HSat.dropNe hj
     exact setRow_other w _ _ cur' fun e=>hjk (hs.inj j k hj' hlk e)
    ·intro _
     refine⟨fun j hj=>?_,?_,?_⟩
     ·obtain⟨hjk,hj'⟩:=HSat.dropNe hj
      simp only[En.setRow,if_true]
      exact fun e=>hjk (hs.inj j k hj' hlk e)
     ·simp only[En.setRow,if_true];exact hImm
     ·simp only[En.setRow,if_true];exact hs.mine k hlk
    ·refine ownR_of ⟨hfl'.length,.inr ⟨E.ρ k,cap,cur',by simp only[En.setRow,if_true];rw[hlt],Nat.zero_le _,setRow_heap w _ _ _ _ _ hg,by rw[hlt];exact hroom,hcm,?_,?_⟩⟩
     ·rw[hcur',List.size_toArray,<- hcs]
      simp only[List.length_append,List.length_take,List.length_drop,Array.length_toList]
      omega
     ·have e1:cur.toList.take (i*ie.size)=ys.take (i*ty.size):=by
       rw[<- htake,List.take_take,hsz]
       congr 1
       exact (Nat.min_eq_left (Nat.mul_le_mul_right _ (by omega))).symm
      rw[hcur',List.toList_toArray,e1]
      rw[show (l.take i++l.drop a).length*ty.size=(ys.take (i*ty.size)++news).length from (hfl'.length).symm]
      rw[List.take_left]
   ·unfold Rep
    exact⟨by rw[gD];simp,by simp[En.setRow],_,_,_,rfl⟩
def semLitB(P:Program)(id:Nat)(t:TypeId)(len:Nat)(parts:List Nat)(args:List SV):Option Eff :=
 match P.underlying t with
 |some (.slice e)=>match P.info? e with
  |some ie=>match ie.zero with
   |some z=>match xX (svOf z) with
    |some c=>if Nat.ble 1 (len*ie.size)&&Nat.ble (len*ie.size) 16777216&&Nat.ble 1 c.length then
      match fillSV (fun i=>some (i*ie.size,ie.size)) ((List.range (len*ie.size)).map fun i=>c.getD (i % c.length) .any) (parts.zip args) with
      |some out=>bif qT out then some { res:=.bsl id len,upd:=[(id,some (.box out))],news:=[id] } else none
      |none=>none
     else none
    |none=>none
   |none=>none
  |none=>none
 |_=>none
theorem semLitB_ok{P:Program}{H:Hp}{o:Oper}{t:TypeId}{len id:Nat}{parts:Array (Nat × Operand)}{args:List SV}{eff:Eff}(ho:o.op = .buildSlice t len parts) (h:semLitB P id t len (parts.toList.map (·.1)) args=some eff):zS P o args H eff:=by
 unfold semLitB at h
 split at h<;>try (cases h;done)
 rename_i e hu
 split at h<;>try (cases h;done)
 rename_i ie hie
 split at h<;>try (cases h;done)
 rename_i z hz
 split at h<;>try (cases h;done)
 rename_i c hc
 split at h<;>try (cases h;done)
 rename_i hcond
 simp only[Bool.and_eq_true,Nat.ble_eq] at hcond
 obtain⟨⟨hc1,hc2⟩,hcpos⟩:=hcond
 split at h<;>try (cases h;done)
 rename_i out hout
 cases hna:qT out
 ·rw[hna] at h;cases h
 rw[hna,cond_true] at h
 cases h
 intro w0 M E U w ρv hs hr hn _
 have hr' : zA E U w args ((parts.toList.map (·.2)).map ρv):=by simpa[ho,Op.operands] using hr
 obtain⟨h1,h2⟩:=zip_parts hr'
 have hrz:=yB hc (svOf_ok E U w z)
 obtain⟨res,hfill,hres⟩:=fill_ok (fun i=>some (i*ie.size,ie.size)) _ _ out _ _ hout (range_zero hrz hcpos (List.range (len*ie.size))) h1 h2
 obtain⟨hle,hs'⟩:=hs.addBox (hn id (by simp)) hres e
 rw[vH hna hres.length] at hle hs'
 have hrun:=run_buildSlice (P:=P) w t e len (parts.map fun x=>(x.1,ρv x.2)) res.toArray ie z hu hie hz (by omega) (by omega) (by
  rw[<- hfill]
  congr 1
  ·exact Array.ext' (by simp)
  ·simp)
 refine yA.value (v:=.slice (some ⟨w.heap.size,0,none⟩) len len) (w':=w.alloc (.cells res.toArray e)) ?_ ⟨_,hle,hs',fun b hb=>.inl hb,?_⟩
 ·unfold execOp
  simp only[ho]
  simp[hrun]
 ·unfold Rep
  exact⟨by rw[gD];simp,by simp[En.setρ]⟩
def semLitV(flag:Bool)(P:Program)(H:Hp)(id:Nat)(t:TypeId)(len:Nat)(parts:List Nat)(args:List SV):Option Eff :=
 match flag with
 |true=>match semLit P id t len parts args with
  |some e=>some e
  |none=>match semLitB P id t len parts args with
   |some e=>some e
   |none=>semLitF P H id t len parts args
 |false=>semLitF P H id t len parts args
theorem semLitV_ok{flag:Bool}{P:Program}{H:Hp}{o:Oper}{t:TypeId}{len id:Nat}{parts:Array (Nat × Operand)}{args:List SV}{eff:Eff}(ho:o.op = .buildSlice t len parts) (h:semLitV flag P H id t len (parts.toList.map (·.1)) args=some eff):zS P o args H eff:=by
 unfold semLitV at h
 split at h
 ·split at h
  ·rename_i e he
   cases h
   exact semLit_ok ho he
  ·split at h
   ·rename_i e he
    cases h
    exact semLitB_ok ho he
   ·exact semLitF_ok ho h
 ·exact semLitF_ok ho h
def semIndexB(P:Program)(t:TypeId)(x ix:SV):Option Eff :=
 match P.underlying t,x,ix with
 |some (.slice e),.bsl k m,.int _ i=>match xT P e with
  |some n=>some { need:=some (0<=i/\i<(m:Int)),res:=.ptr k (i.toNat*n) }
  |none=>none
 |_,_,_=>none
theorem semIndexB_ok{P:Program}{H:Hp}{o:Oper}{t:TypeId}{x y:Operand}{a b:SV}{eff:Eff}(ho:o.op = .indexAddr t x y) (h:semIndexB P t a b=some eff):zS P o [a,b] H eff:=by
 unfold semIndexB at h
 split at h<;>try (cases h;done)
 rename_i e k m kk i hu
 split at h<;>try (cases h;done)
 rename_i n hn
 cases h
 refine zS.same rfl rfl fun w0 M E U w ρv hs hr hp=>?_
 obtain⟨h0,h1⟩:=hp
 simp only[ho,Op.operands] at hr
 obtain⟨v,u,hv,hx,hy⟩:=vD hr
 simp only[List.map_cons,List.map_nil,List.cons.injEq,and_true] at hv
 unfold Rep at hx hy
 refine⟨.pointer (some ⟨E.ρ k,0+i.toNat*n,none⟩),?_,?_⟩
 ·unfold execOp
  simp only[ho,hv.1,hv.2,hy,hx.2]
  simp[run_indexAt hu hn w (E.ρ k) 0 m m kk i h0 h1]
 ·unfold Rep
  exact⟨hx.1,by rw[Nat.zero_add]⟩
end Go.Sx
