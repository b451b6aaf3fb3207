/- A copy of a site lies in new memory: copies of lists as rows of their own, the first part of the walk. -/
import Derived.Test.YtfhomgggbhjglaaGreatMuI
import Derived.Test.YtfhomgggbhjglaaGreatFw5
namespace Go.MB
open Go Go.Sx Go.Proofs
set_option linter.unusedVariables false
set_option linter.unusedSimpArgs false
noncomputable section
def L_clonePU:Lay:={ slots:=[(0,.oval tPm)] }
theorem T_clonePU(l:List Pm)(b:Bool):jG (P:=P) [] (zH []) Tryz.f109 L_clonePU true ((l,b),()) =
 Tree.cond b (.leaf { res:=.nils,boxes:=[] }) (.need ((0+l.length)*32<=140737488355328) (.leaf { res:=.own 100,boxes:=[],news:=[.row 49 (Ty.pair (Ty.int IntKind.i64) (Ty.pair (Ty.int IntKind.i64) (Ty.pair (Ty.int IntKind.i64) Ty.bool))) l] })):=by kernel_rfl
def c_clonePU:XC P:=XC.of (α:=(List Pm×Bool)×Unit) 109 L_clonePU (fun x=>x) (fun x=>x) (fun _=>rfl)
 (fun x=>some ((x.1.2=true->x.1.1=[])/\x.1.1.length<=1000))
 (fun x=>⟨.own 100,[],[.row 49 tPm x.1.1]⟩) (by kernel_rfl) (by kernel_rfl) (by
  rintro⟨⟨l,b⟩,⟨⟩⟩ hp
  refine m_nil hm (own:=true) (by kernel_rfl) (by kernel_rfl) (by kernel_rfl) (T_clonePU l b) trivial (by kernel_rfl) (by kernel_rfl) ?_
  obtain⟨h1,h2⟩:(b=true->l=[])/\l.length<=1000:=hp
  refine⟨fun h=>.inr ⟨rfl,rfl,h1 h,nilS_own⟩,fun _=>⟨by omega,.inl rfl⟩⟩)
def L_cloneEU:Lay:={ slots:=[(0,.oval tEl)] }
theorem T_cloneEU(l:List E4)(b:Bool):jG (P:=P) [] (zH []) Tryz.f110 L_cloneEU true ((l,b),()) =
 Tree.cond b (.leaf { res:=.nils,boxes:=[] }) (.need ((0+l.length)*32<=140737488355328) (.leaf { res:=.own 100,boxes:=[],news:=[.row 47 (Ty.pair (Ty.int IntKind.i64) (Ty.pair (Ty.int IntKind.i64) (Ty.pair (Ty.int IntKind.i64) (Ty.int IntKind.i64)))) l] })):=by kernel_rfl
def c_cloneEU:XC P:=XC.of (α:=(List E4×Bool)×Unit) 110 L_cloneEU (fun x=>x) (fun x=>x) (fun _=>rfl)
 (fun x=>some ((x.1.2=true->x.1.1=[])/\x.1.1.length<=1000))
 (fun x=>⟨.own 100,[],[.row 47 tEl x.1.1]⟩) (by kernel_rfl) (by kernel_rfl) (by
  rintro⟨⟨l,b⟩,⟨⟩⟩ hp
  refine m_nil hm (own:=true) (by kernel_rfl) (by kernel_rfl) (by kernel_rfl) (T_cloneEU l b) trivial (by kernel_rfl) (by kernel_rfl) ?_
  obtain⟨h1,h2⟩:(b=true->l=[])/\l.length<=1000:=hp
  refine⟨fun h=>.inr ⟨rfl,rfl,h1 h,nilS_own⟩,fun _=>⟨by omega,.inl rfl⟩⟩)
def L_cloneIU:Lay:={ slots:=[(0,.oval tI)] }
theorem T_cloneIU(l:List Int)(b:Bool):jG (P:=P) [] (zH []) Tryz.f112 L_cloneIU true ((l,b),()) =
 Tree.cond b (.leaf { res:=.nils,boxes:=[] }) (.need ((0+l.length)*8<=140737488355328) (.leaf { res:=.own 100,boxes:=[],news:=[.row 3 (Ty.int IntKind.i64) l] })):=by kernel_rfl
def c_cloneIU:XC P:=XC.of (α:=(List Int×Bool)×Unit) 112 L_cloneIU (fun x=>x) (fun x=>x) (fun _=>rfl)
 (fun x=>some ((x.1.2=true->x.1.1=[])/\x.1.1.length<=1000))
 (fun x=>⟨.own 100,[],[.row 3 tI x.1.1]⟩) (by kernel_rfl) (by kernel_rfl) (by
  rintro⟨⟨l,b⟩,⟨⟩⟩ hp
  refine m_nil hm (own:=true) (by kernel_rfl) (by kernel_rfl) (by kernel_rfl) (T_cloneIU l b) trivial (by kernel_rfl) (by kernel_rfl) ?_
  obtain⟨h1,h2⟩:(b=true->l=[])/\l.length<=1000:=hp
  refine⟨fun h=>.inr ⟨rfl,rfl,h1 h,nilS_own⟩,fun _=>⟨by omega,.inl rfl⟩⟩)
def c_cpP:XC P where
 f:=c_clonePU.f
 L:={ slots:=[(0,.val gP)] }
 pre:=fun x=>some (List.length (α:=Pm) x.1<=1000)
 out:=fun x=>⟨.own 100,[],[.row 49 tPm x.1]⟩
 ent:=c_clonePU.ent
 lok:=rfl
 ok:=fun x h=>qV.byNil fun b hb=>c_clonePU.ok ((x.1,b),()) ⟨hb,h⟩
def c_cpE:XC P where
 f:=c_cloneEU.f
 L:={ slots:=[(0,.val tEls)] }
 pre:=fun x=>some (List.length (α:=E4) x.1<=1000)
 out:=fun x=>⟨.own 100,[],[.row 47 tEl x.1]⟩
 ent:=c_cloneEU.ent
 lok:=rfl
 ok:=fun x h=>qV.byNil fun b hb=>c_cloneEU.ok ((x.1,b),()) ⟨hb,h⟩
def c_cpI:XC P where
 f:=c_cloneIU.f
 L:={ slots:=[(0,.val tIs)] }
 pre:=fun x=>some (List.length (α:=Int) x.1<=1000)
 out:=fun x=>⟨.own 100,[],[.row 3 tI x.1]⟩
 ent:=c_cloneIU.ent
 lok:=rfl
 ok:=fun x h=>qV.byNil fun b hb=>c_cloneIU.ok ((x.1,b),()) ⟨hb,h⟩
def bCopy:Code:=zJ Tryz.f64
def xCopy:Code:=yR (yZ 4 bCopy)
def lCopy:Code:=vJ xCopy
def rCopyB:Code:=cIn (cIn lCopy)
def eCopy:Code:=vJ (yZ 4 bCopy)
def kCpA(e:Exit)(S:St)(K:Kn):Tree (Exit×List SV×List (Option Ob)×List Bool):=match e with
 |.normal=>jR (P:=P) [] (fun _=>none) [] 41 0 (yR xCopy) S K (fun e S _=>obs [1,2,23,24] [2041,3041,7041,12041,18041] [2041,3041,7041,12041,18041] e S)
 |_=>.fail 60
theorem T_cpA(t c h o p:Int)(es:List E4)(vs:List (List Int))(n:Int)(ps:List Pm)(k:Int):jR (P:=P) [c_cpP.gc,c_cpE.gc,c_cloneV.gc] (fun _=>none) [] 41 0 (cut1 4 bCopy) (fW (z_ 0 [.agg zR] ((t,c,h,o,p,(es,vs,n),ps,k),()))) (fun _=>none) kCpA =
 Tree.need (ps.length<=1000) (.need (es.length<=1000) (.need (vs.length<=1000) (.leaf (Exit.normal,[SV.ptr 2041 0,SV.ptr 3041 0,.int .i64 (vs.length:Int),.int .i64 0],[some (Ob.box [.int .i64 t,.int .i64 c,.int .i64 h,.int .i64 o,.int .i64 p,.own (nat_lit 12041+(100 - nat_lit 100)),.own 18041,.int .i64 n,.own (nat_lit 7041+(100 - nat_lit 100)),.int .i64 k]),some (Ob.box [.int .i64 0,.int .i64 0,.int .i64 0,.int .i64 0,.int .i64 0,.nils,.nils,.int .i64 0,.nils,.int .i64 0]),some (.row 49 tPm ps),some (.row 47 tEl es),some (.row 31 tIs vs)],[true,true,true,true,true])))):=by kernel_rfl
def cpSt(t c h o p n k m i:Int)(us:List Value)(l:List Int):St:=wZ [(1,.ptr 2041 0),(2,.ptr 3041 0),(23,.int .i64 m),(24,.int .i64 i)]
 [(2041,some (.box [.int .i64 t,.int .i64 c,.int .i64 h,.int .i64 o,.int .i64 p,.own 12041,.own 18041,.int .i64 n,.own 7041,.int .i64 k])),(18041,some (.hole 31 us i.toNat 700)),(700,some (.frz tI l))] [2041,3041,7041,12041,18041,700]
theorem T_cpB(t c h o p n k m i:Int)(us:List Value)(l:List Int):jR (P:=P) [c_cpI.gc] (fun _=>none) [] 41 0 rCopyB (cpSt t c h o p n k m i us l) (fun _=>none) (fun e S _=>obs [1,2,23,24] [2041,18041,38041] [38041] e S) =
 Tree.cond (decide (i<m)) (.need (0<=i/\i<(us.length:Int)) (.need (Int.toNat i=Int.toNat i) (.need (l.length<=1000) (.need (0<=i/\i<(us.length:Int)) (.need (Int.toNat i=Int.toNat i) (.leaf (Exit.normal,[SV.ptr 2041 0,SV.ptr 3041 0,.int .i64 m,.int .i64 (IntKind.i64.wrap (i+1))],[some (Ob.box [.int .i64 t,.int .i64 c,.int .i64 h,.int .i64 o,.int .i64 p,.own 12041,.own 18041,.int .i64 n,.own 7041,.int .i64 k]),some (Ob.hole 31 us i.toNat (nat_lit 38041+(100 - nat_lit 100))),some (.row 3 tI l)],[true]))))))) (.leaf (Exit.exit 0,[SV.ptr 2041 0,SV.ptr 3041 0,.int .i64 m,.int .i64 i],[some (Ob.box [.int .i64 t,.int .i64 c,.int .i64 h,.int .i64 o,.int .i64 p,.own 12041,.own 18041,.int .i64 n,.own 7041,.int .i64 k]),some (Ob.hole 31 us i.toNat 700),none],[false])):=by kernel_rfl
def cpEnd(t c h o p:Int)(es:List E4)(vs:List (List Int))(n:Int)(ps:List Pm)(k:Int):St:=wZ [(1,.ptr 2041 0),(2,.ptr 3041 0)]
 [(2041,some (.box [.int .i64 t,.int .i64 c,.int .i64 h,.int .i64 o,.int .i64 p,.own 12041,.sl tIs vs,.int .i64 n,.own 7041,.int .i64 k])),(3041,some (.box [.int .i64 0,.int .i64 0,.int .i64 0,.int .i64 0,.int .i64 0,.nils,.nils,.int .i64 0,.nils,.int .i64 0])),(7041,some (.row 49 tPm ps)),(12041,some (.row 47 tEl es))] [2041,3041,7041,12041]
theorem T_cpE(t c h o p:Int)(es:List E4)(vs:List (List Int))(n:Int)(ps:List Pm)(k:Int):jR (P:=P) [] (fun _=>none) [] 41 0 eCopy (cpEnd t c h o p es vs n ps k) (fun _=>none) (fun e S _=>obsR P 41 Tryz.f64 S fun cs=>obsH S [7041,12041] fun b=>.leaf (e,cs,b)) =
 Tree.leaf (Exit.ret,[.int .i64 t,.int .i64 c,.int .i64 h,.int .i64 o,.int .i64 p,.own 12041,.sl (Ty.sl tI) vs,.int .i64 n,.own 7041,.int .i64 k],[some (.row 49 tPm ps),some (.row 47 tEl es)]):=by kernel_rfl
def cpX(m i:Int):St:=wZ [(1,.ptr 2041 0),(2,.ptr 3041 0),(23,.int .i64 m),(24,.int .i64 i)] [] [2041,3041]
theorem T_cpX(m i:Int):jR (P:=P) [] (fun _=>none) [] 41 0 rCopyB (cpX m i) (fun _=>none) (fun e S _=>obs [1,2,23,24] [] [] e S) =
 Tree.cond (decide (i<m)) (Tree.fail 1029) (.leaf (Exit.exit 0,[SV.ptr 2041 0,SV.ptr 3041 0,.int .i64 m,.int .i64 i],[],[])):=by kernel_rfl
structure CpC where
 N:Nat
 I:Nat->Prop
 b1:Nat
 b2:Nat
 b0:Nat
 w1:World
 vs:List (List Int)
 xs:List Value
 cap:Nat
 t:Int
 c:Int
 h:Int
 o:Int
 p:Int
 n:Int
 k:Int
 ev:Value
 pv:Value
 env:Value
abbrev CpC.zM(C:CpC):List Value:=[.int .i64 C.t,.int .i64 C.c,.int .i64 C.h,.int .i64 C.o,.int .i64 C.p,C.ev,C.env,.int .i64 C.n,C.pv,.int .i64 C.k]
structure CpC.Ok (C:CpC):Prop where
 N:C.N<=C.w1.heap.size
 I:∀b,C.I b->b<C.w1.heap.size
 i1:¬ C.I C.b1
 i0:¬ C.I C.b0
 ne:C.b1≠C.b0
 l1:C.b1<C.w1.heap.size
 l0:C.vs≠[]->C.b0<C.w1.heap.size
 e0:C.vs≠[]->C.env = .slice (some ⟨C.b0,0,none⟩) C.vs.length C.cap
 es:∃a n c,C.env = .slice a n c
 xs:zZ C.I C.w1 tIs C.vs C.xs
 cap:C.vs.length<=C.cap
 mx:C.cap<=maxLen
 ev:∃a n c,C.ev = .slice a n c
 pv:∃a n c,C.pv = .slice a n c
 len:C.vs.length<=1000
 all:∀q∈C.vs,q.length<=1000
def CpC.Fr(C:CpC)(w:World)(b:Nat):Prop:=C.w1.heap.size<=b/\b<w.heap.size/\w.heap[b]? ≠ some (.deferred (some []))
structure CpC.At (C:CpC) (i:Nat) (a:Act) (w:World):Prop where
 size:a.tmps.size=41
 marks:zL C.N w C.I a.defers
 t1:a.tmps.getD 1 undef = .pointer (some ⟨C.b1,0,none⟩)
 t2:a.tmps.getD 2 undef = .pointer (some ⟨C.b2,0,none⟩)
 t23:a.tmps.getD 23 undef = .int .i64 C.vs.length
 t24:a.tmps.getD 24 undef = .int .i64 i
 frame:Frm C.w1 (fun b=>b=C.b1\/b=C.b0) w
 box:∃ty,w.heap[C.b1]? = some (.cells C.zM.toArray ty (0,0))
 row:C.vs≠[]->∃cur us,w.heap[C.b0]? = some (.cells cur 31 (0,0))/\cur.size=C.cap/\cur.toList.take C.vs.length=us/\(∀j,i<=j->us[j]? = C.xs[j]?) /\
  ∀(j:Nat)(d:List Int)(u:Value),j<i->C.vs[j]? = some d->us[j]? = some u->zG (C.Fr w) w tIs d [u]
def isEx:SV->Bool
 |.int _ _=>true
 |.bool _=>true
 |.own _=>true
 |.nils=>true
 |_=>false
def exV(E:En):SV->Value
 |.int k n=>.int k n
 |.bool b=>.bool b
 |.own k=>E.sv k
 |.nils=>.slice none 0 0
 |_=>undef
theorem ex_rep{E:En}{U:Nat->Bool}{w:World}{s:SV}{v:Value}(h:isEx s=true) (hr:Rep E U w s v):v=exV E s:=by
 cases s<;>first |(cases h;done) |(unfold Rep at hr;first |exact hr |exact hr.2.1)
theorem ex_repL{E:En}{U:Nat->Bool}{w:World}:∀{cs:List SV}{vs:List Value},cs.all isEx=true->zA E U w cs vs->vs=cs.map (exV E)
 | [],_,_,hr=>by unfold zA at hr;exact hr
 |c::cs,_,h,hr=>by
  simp only[List.all_cons,Bool.and_eq_true] at h
  unfold zA at hr
  obtain⟨v,r,rfl,h1,h2⟩:=hr
  rw[List.map_cons,ex_rep h.1 h1,ex_repL h.2 h2]
theorem vQ(n:Nat)(u0:Nat->Bool)(cur:Nat)(c:Code):wO P [] n none u0 (fun _=>none) cur c:=qS _ _
theorem cp_exit{C:CpC}(hC:C.Ok) {a:Act}{w:World}(h:C.At C.vs.length a w):rCopyB.wpIn (FR none) 0 P (fun e a' w' =>e = .exit 0/\C.At C.vs.length a' w') a w:=by
 have hlt:∀b,C.I b->b<w.heap.size:=fun b hb=>Nat.lt_of_lt_of_le (hC.I b hb) h.frame.size
 let E:En:=⟨fun k=>bif Nat.beq k 2041 then C.b1 else C.b2,fun _=>undef,C.I,fun _ _=>default⟩
 have hsat:=wA (n:=41) (M:=fun _=>False) (E:=E) (ts:=[(1,.ptr 2041 0),(2,.ptr 3041 0),(23,.int .i64 C.vs.length),(24,.int .i64 C.vs.length)]) (hs:=[]) (us:=[2041,3041]) h.size rfl
  (by
   intro p hp
   simp only[List.mem_cons,List.not_mem_nil,or_false] at hp
   rcases hp with rfl |rfl |rfl |rfl
   ·unfold Rep;exact⟨rfl,h.t1⟩
   ·unfold Rep;exact⟨rfl,h.t2⟩
   ·unfold Rep;exact h.t23
   ·unfold Rep;exact h.t24)
  (fun k o hk=>by cases hk) (fun _ _ _ _ hj=>by cases hj) (fun _ _ hk=>by cases hk) hlt
 refine jA hm (r0:=none) (u0:=apU noU [2041,3041]) (cx:=[]) (lp:=fun _=>none) (ys:=[]) (Q:=fun x=>x=(.exit 0,[.ptr 2041 0,.ptr 3041 0,.int .i64 C.vs.length,.int .i64 C.vs.length],[],[]))
  (B:=⟨w,fun _=>False,E,apU noU [2041,3041],41,a.defers⟩) (fun k hk=>hk) (fun h hh=>by cases hh) rCopyB 0 (cpX C.vs.length C.vs.length) (fun _=>none) (fun e S _=>obs [1,2,23,24] [] [] e S) _ (vQ _ _ _ _) (jP _ _) ?_ ?_ a w ⟨E,hsat⟩
 ·rw[T_cpX]
  refine⟨fun d=>?_,fun _=>rfl⟩
  exact absurd (dcT d) (Int.lt_irrefl _)
 ·intro e S' K' a' w' _ hs' hk
  have hq:=yV hk
  injection hq with he hq
  injection hq with ht hq
  simp only[List.map_cons,List.map_nil,List.cons.injEq,and_true] at ht
  obtain⟨r1,r2,r3,r4⟩:=ht
  obtain⟨E',hsE⟩:=hs'
  refine⟨he,?_⟩
  have hU:∀k,k∈[2041,3041]->(apU noU [2041,3041]) k=true:=fun k hk=>zO.2 hk ▸ rfl
  have fr:=hsE.heap.frame
  have f:=hsE.tmps 1 (show 1<41 by decide)
  have g:=hsE.tmps 2 (show 2<41 by decide)
  have m:=hsE.tmps 23 (show 23<41 by decide)
  have y:=hsE.tmps 24 (show 24<41 by decide)
  rw[r1] at f
  rw[r2] at g
  rw[r3] at m
  rw[r4] at y
  unfold Rep at f g m y
  have e1:E'.ρ 2041=C.b1:=hsE.le.rho 2041 rfl
  have e2:E'.ρ 3041=C.b2:=hsE.le.rho 3041 rfl
  have hkeep:∀b,b<w.heap.size->w'.heap[b]? = w.heap[b]?:=fun b hb=>fr.block b hb fun x=>x
  have hm':=zL.step (N:=C.N) hsE (Nat.le_trans hC.N h.frame.size) h.marks (fun b hb=>hb.elim)
  refine⟨hsE.size,hm'.fM (fun _ _=>rfl) (fun b _ hb=>hsE.le.imm b hb),by rw[f.2,e1],by rw[g.2,e2],m,y,?_,?_,?_⟩
  ·exact⟨fr.os.trans h.frame.os,fr.tape.trans h.frame.tape,fr.output.trans h.frame.output,Nat.le_trans h.frame.size fr.size,Nat.le_trans h.frame.drawn fr.drawn,fun b hb hM=>(hkeep b (Nat.lt_of_lt_of_le hb h.frame.size)).trans (h.frame.block b hb hM)⟩
  ·rw[hkeep _ (Nat.lt_of_lt_of_le hC.l1 h.frame.size)];exact h.box
  ·intro hne
   obtain⟨cur,us,g1,g2,g3,g4,g5⟩:=h.row hne
   refine⟨cur,us,by rw[hkeep _ (Nat.lt_of_lt_of_le (hC.l0 hne) h.frame.size)];exact g1,g2,g3,g4,fun j d u hj hd hu=>?_⟩
   exact zG.mono (fun b hb=>⟨hb.1,Nat.lt_of_lt_of_le hb.2.1 fr.size,by rw[hkeep b hb.2.1];exact hb.2.2⟩) (fun b hb=>hkeep b hb.2.1) _ _ _ (g5 j d u hj hd hu)
theorem cp_round{C:CpC}(hC:C.Ok) {i:Nat}(hi:i<C.vs.length) {a:Act}{w:World}(h:C.At i a w):rCopyB.wpIn (FR none) 0 P (fun e a' w' =>e = .normal/\C.At (i+1) a' w') a w:=by
 have hlt:∀b,C.I b->b<w.heap.size:=fun b hb=>Nat.lt_of_lt_of_le (hC.I b hb) h.frame.size
 obtain⟨ty1,hbox⟩:=h.box
 have hne:C.vs≠[]:=fun e=>by rw[e] at hi;cases hi
 have hl0:=hC.l0 hne
 have hev:=hC.e0 hne
 obtain⟨cur,us,g1,g2,g3,g4,g5⟩:=h.row hne
 have husl:us.length=C.vs.length:=by
  have:=hC.cap
  rw[<- g3,List.length_take,Array.length_toList]
  omega
 obtain⟨l,hl⟩:∃l,C.vs[i]? = some l:=⟨_,List.getElem?_eq_getElem hi⟩
 have hlm:l.length<=1000:=hC.all l (List.mem_of_getElem? hl)
 obtain⟨xa,xb,xc,exs,hxa,hdr,_,_⟩:=zZ.at hC.xs hl
 have hkI:∀b,C.I b->w.heap[b]? = C.w1.heap[b]?:=fun b hb=>h.frame.block b (hC.I b hb) fun hM=>hM.elim (fun e=>hC.i1 (e ▸ hb)) (fun e=>hC.i0 (e ▸ hb))
 have hdr':=zG.mono (fun b hb=>hb) hkI tIs l xb hdr
 obtain⟨v,rfl,hsl⟩:=hdr'
 have hv:us[i]? = some v:=by
  have hxa' : xa.length=i:=by rw[hxa];show i*1=i;omega
  rw[g4 i (Nat.le_refl _),exs,List.getElem?_append_right (by omega),hxa',Nat.sub_self]
  rfl
 have hvs:∃a n c,v = .slice a n c:=by
  obtain⟨p,cp,e,_⟩:=hsl
  exact⟨p,_,cp,e⟩
 have hset:us.set i v=us:=by
  apply List.ext_getElem?
  intro j
  rw[List.getElem?_set]
  split
  ·rename_i e
   subst e
   rw[if_pos (by omega),hv]
  ·rfl
 let E:En:=⟨fun k=>bif Nat.beq k 2041 then C.b1 else bif Nat.beq k 18041 then C.b0 else C.b2,fun k=>bif Nat.beq k 12041 then C.ev else bif Nat.beq k 18041 then C.env else bif Nat.beq k 7041 then C.pv else v,C.I,fun _ _=>default⟩
 let U:=apU noU [2041,3041,7041,12041,18041,700]
 have hiN:(i:Int).toNat=i:=Int.toNat_natCast i
 have hsat:SatE ⟨w,fun b=>b=C.b1\/b=C.b0,E,U,41,a.defers⟩ E (cpSt C.t C.c C.h C.o C.p C.n C.k C.vs.length i us l) a w:=by
  refine wA h.size rfl ?_ ?_ ?_ ?_ hlt
  ·intro p hp
   simp only[List.mem_cons,List.not_mem_nil,or_false] at hp
   rcases hp with rfl |rfl |rfl |rfl
   ·unfold Rep;exact⟨rfl,h.t1⟩
   ·unfold Rep;exact⟨rfl,h.t2⟩
   ·unfold Rep;exact h.t23
   ·unfold Rep;exact h.t24
  ·intro k o hk
   simp only[List.mem_cons,List.not_mem_nil,or_false,Prod.mk.injEq,Option.some.injEq] at hk
   rcases hk with⟨rfl,rfl⟩ |⟨rfl,rfl⟩ |⟨rfl,rfl⟩
   ·refine⟨by decide,C.zM,ty1,hbox,?_⟩
    have ri:∀n,Rep E U w (.int .i64 n) (.int .i64 n):=fun n=>by unfold Rep;rfl
    refine zA.cons (ri _) (zA.cons (ri _) (zA.cons (ri _) (zA.cons (ri _) (zA.cons (ri _) (zA.cons ?_ (zA.cons ?_ (zA.cons (ri _) (zA.cons ?_ (zA.cons (ri _) zA.nil)))))))))
    ·unfold Rep;exact⟨rfl,rfl,hC.ev⟩
    ·unfold Rep;exact⟨rfl,rfl,hC.es⟩
    ·unfold Rep;exact⟨rfl,rfl,hC.pv⟩
   ·rw[hiN]
    refine⟨by decide,by omega,⟨rfl,hvs⟩,C.cap,cur,by rw[husl];exact hev,g1,by rw[husl];exact hC.cap,hC.mx,g2,?_⟩
    rw[husl,g3]
    exact hset.symm
   ·exact⟨by decide,hsl⟩
  ·intro j oj k ok hj hk lj lk he
   simp only[List.mem_cons,List.not_mem_nil,or_false,Prod.mk.injEq,Option.some.injEq] at hj hk
   rcases hj with⟨rfl,rfl⟩ |⟨rfl,rfl⟩ |⟨rfl,rfl⟩<;>rcases hk with⟨rfl,rfl⟩ |⟨rfl,rfl⟩ |⟨rfl,rfl⟩
   ·rfl
   ·exact absurd he hC.ne
   ·exact lk.elim
   ·exact absurd he.symm hC.ne
   ·rfl
   ·exact lk.elim
   ·exact lj.elim
   ·exact lj.elim
   ·exact lj.elim
  ·intro k o hk lk
   simp only[List.mem_cons,List.not_mem_nil,or_false,Prod.mk.injEq,Option.some.injEq] at hk
   rcases hk with⟨rfl,rfl⟩ |⟨rfl,rfl⟩ |⟨rfl,rfl⟩
   ·exact⟨hC.i1,.inl rfl⟩
   ·exact⟨hC.i0,.inr rfl⟩
   ·exact lk.elim
 have hMd:∀b,(b=C.b1\/b=C.b0)->w.heap[b]? ≠ some (.deferred (some [])):=by
  rintro b (rfl |rfl) hd
  ·rw[hbox] at hd;cases hd
  ·rw[g1] at hd;cases hd
 refine jA hm (r0:=none) (u0:=U) (cx:=[c_cpI.gc]) (lp:=fun _=>none) (ys:=[]) (Q:=fun x=>x=(.normal,[.ptr 2041 0,.ptr 3041 0,.int .i64 C.vs.length,.int .i64 ((i:Int)+1)],[some (.box [.int .i64 C.t,.int .i64 C.c,.int .i64 C.h,.int .i64 C.o,.int .i64 C.p,.own 12041,.own 18041,.int .i64 C.n,.own 7041,.int .i64 C.k]),some (.hole 31 us i 38041),some (.row 3 tI l)],[true]))
  (B:=⟨w,fun b=>b=C.b1\/b=C.b0,E,U,41,a.defers⟩) (fun k hk=>hk) (fun h hh=>by cases hh) rCopyB 0 (cpSt C.t C.c C.h C.o C.p C.n C.k C.vs.length i us l) (fun _=>none) (fun e S _=>obs [1,2,23,24] [2041,18041,38041] [38041] e S) _ (vQ _ _ _ _) (jP _ _) ?_ ?_ a w ⟨E,hsat⟩
 ·rw[T_cpB,hiN]
  have hr:(0:Int)<=i/\(i:Int)<us.length:=⟨by omega,by omega⟩
  refine⟨fun _=>⟨hr,rfl,hlm,hr,rfl,?_⟩,fun d=>?_⟩
  ·have hlen:=hC.len
   rw[jZ (by omega) (by omega)]
   exact rfl
  ·exact absurd (show (i:Int)<C.vs.length by omega) (dcF d)
 ·intro e S' K' a' w' _ hs' hk
  have hq:=yV hk
  injection hq with he hq
  injection hq with ht hq
  injection hq with hh hu
  simp only[List.map_cons,List.map_nil,List.cons.injEq,and_true] at ht hh hu
  obtain⟨r1,r2,r3,r4⟩:=ht
  obtain⟨o1,o2,o3⟩:=hh
  obtain⟨E',hsE⟩:=hs'
  refine⟨he,?_⟩
  have fr:=hsE.heap.frame
  have f:=hsE.tmps 1 (show 1<41 by decide)
  have g:=hsE.tmps 2 (show 2<41 by decide)
  have m:=hsE.tmps 23 (show 23<41 by decide)
  have y:=hsE.tmps 24 (show 24<41 by decide)
  rw[r1] at f
  rw[r2] at g
  rw[r3] at m
  rw[r4] at y
  unfold Rep at f g m y
  have e1:E'.ρ 2041=C.b1:=hsE.le.rho 2041 rfl
  have e2:E'.ρ 3041=C.b2:=hsE.le.rho 3041 rfl
  have e0:E'.ρ 18041=C.b0:=hsE.le.rho 18041 rfl
  have s1:E'.sv 12041=C.ev:=hsE.le.sv 12041 rfl
  have s2:E'.sv 18041=C.env:=hsE.le.sv 18041 rfl
  have s3:E'.sv 7041=C.pv:=hsE.le.sv 7041 rfl
  have hkeep:∀b,b<w.heap.size->b≠C.b1->b≠C.b0->w'.heap[b]? = w.heap[b]?:=fun b hb n1 n2=>fr.block b hb fun hM=>hM.elim n1 n2
  have hm':=zL.step (N:=C.N) hsE (Nat.le_trans hC.N h.frame.size) h.marks hMd
  obtain⟨_,hi',⟨_,_⟩,cap',cur',q1,q2,q3,q4,q5,q6⟩:=hsE.heap.ob 18041 _ o2
  rw[s2,hev] at q1
  injection q1 with _ _ q1c
  subst q1c
  rw[e0] at q2
  obtain⟨_,ys,how,hfl,hsv⟩:=hsE.heap.ob 38041 _ o3
  have hb0:C.b0<w.heap.size:=Nat.lt_of_lt_of_le hl0 h.frame.size
  have hb1:C.b1<w.heap.size:=Nat.lt_of_lt_of_le hC.l1 h.frame.size
  refine⟨hsE.size,hm'.fM (fun _ _=>rfl) (fun b _ hb=>hsE.le.imm b hb),by rw[f.2,e1],by rw[g.2,e2],m,y,?_,?_,?_⟩
  ·exact⟨fr.os.trans h.frame.os,fr.tape.trans h.frame.tape,fr.output.trans h.frame.output,Nat.le_trans h.frame.size fr.size,Nat.le_trans h.frame.drawn fr.drawn,fun b hb hM=>(hkeep b (Nat.lt_of_lt_of_le hb h.frame.size) (fun e=>hM (.inl e)) (fun e=>hM (.inr e))).trans (h.frame.block b hb hM)⟩
  ·obtain⟨_,vs',ty',k1,k2⟩:=hsE.heap.ob 2041 _ o1
   have k3:=ex_repL (by rfl) k2
   simp only[List.map_cons,List.map_nil,exV,s1,s2,s3] at k3
   subst k3
   rw[e1] at k1
   exact⟨ty',k1⟩
  ·intro _
   refine⟨cur',us.set i (E'.sv 38041),q2,q5,by rw[<- husl];exact q6,fun j hj=>?_,fun j d u hj hd hu=>?_⟩
   ·rw[List.getElem?_set_ne (by omega)]
    exact g4 j (by omega)
   ·by_cases hji:j=i
    ·subst hji
     rw[List.getElem?_set_self (by omega)] at hu
     cases hu
     have hdl:d=l:=Option.some.inj (hd.symm.trans hl)
     subst hdl
     refine⟨_,rfl,pA how (zZ.flat rfl _ _ hfl) fun b hb=>?_⟩
     rcases hsv with hn |⟨cp,hsv⟩
     ·rw[hn] at hb;cases hb
     ·rw[hsv] at hb
      cases hb
      have hlv:jF E' S'.heap 38041:=⟨_,o3,by show E'.sv 38041≠_;rw[hsv];simp⟩
      refine⟨?_,hsE.heap.jV hlv,(hsE.heap.ob 38041 _ o3).2.kind (by show E'.sv 38041≠_;rw[hsv];simp)⟩
      rcases hsE.heap.mine 38041 hlv with (hM |hM) |hM
      ·have:=hsE.heap.inj 38041 2041 hlv ⟨_,o1,trivial⟩ (by rw[e1];exact hM)
       cases this
      ·have:=hsE.heap.inj 38041 18041 hlv ⟨_,o2,trivial⟩ (by rw[e0];exact hM)
       cases this
      ·exact Nat.le_trans h.frame.size hM
    ·rw[List.getElem?_set_ne (fun e=>hji e.symm)] at hu
     have hj' : j<i:=by omega
     have hk:∀b,C.Fr w b->w'.heap[b]? = w.heap[b]?:=fun b hb=>hkeep b hb.2.1 (fun e=>by have:=hC.l1;have:=hb.1;omega) (fun e=>by have:=hb.1;omega)
     exact zG.mono (fun b hb=>⟨hb.1,Nat.lt_of_lt_of_le hb.2.1 fr.size,by rw[hk b hb];exact hb.2.2⟩) hk _ _ _ (g5 j d u hj' hd hu)
theorem cp_loop{C:CpC}(hC:C.Ok) {a:Act}{w:World}(h:C.At 0 a w):lCopy.wpIn (FR none) 0 P (fun e a' w' =>e = .normal/\C.At C.vs.length a' w') a w:=by
 have e:lCopy = .block 0 (.loop rCopyB):=by kernel_rfl
 rw[e]
 refine wpIn_block (wpIn_loop (fun a w=>∃i,i<=C.vs.length/\C.At i a w) (fun a _=>C.vs.length - (match a.tmps.getD 24 undef with
  |.int _ n=>n.toNat
  |_=>0)) ⟨0,Nat.zero_le _,h⟩ ?_)
 rintro a w ⟨i,hi,h⟩
 rcases Nat.lt_or_ge i C.vs.length with hlt |hge
 ·refine wpIn_mono (cp_round hC hlt h) ?_
  rintro e a' w' ⟨rfl,h'⟩
  refine⟨⟨i+1,hlt,h'⟩,?_⟩
  simp only[h.t24,h'.t24,Int.toNat_natCast]
  exact Nat.sub_lt_sub_left hlt (Nat.lt_succ_self i)
 ·have:i=C.vs.length:=by omega
  subst this
  refine wpIn_mono (cp_exit hC h) ?_
  rintro e a' w' ⟨rfl,h'⟩
  exact⟨rfl,h'⟩
def cpObs(t c h o p:Int)(es:List E4)(vs:List (List Int))(n:Int)(ps:List Pm)(k:Int):Exit×List SV×List (Option Ob)×List Bool :=
 (.normal,[.ptr 2041 0,.ptr 3041 0,.int .i64 vs.length,.int .i64 0],[some (.box [.int .i64 t,.int .i64 c,.int .i64 h,.int .i64 o,.int .i64 p,.own 12041,.own 18041,.int .i64 n,.own 7041,.int .i64 k]),some (.box [.int .i64 0,.int .i64 0,.int .i64 0,.int .i64 0,.int .i64 0,.nils,.nils,.int .i64 0,.nils,.int .i64 0]),some (.row 49 tPm ps),some (.row 47 tEl es),some (.row 31 tIs vs)],[true,true,true,true,true])
theorem cp_start{w:World}{I:Nat->Prop}{E:En}{S:St}{a:Act}{w1:World}{t c h o p:Int}{es:List E4}{vs:List (List Int)}{n:Int}{ps:List Pm}{k:Int}
  (hs:SatE ⟨w,fun _=>False,E0 I,noU,41,[]⟩ E S a w1) (e:Exit) (ho:(e,[1,2,23,24].map S.tmps,[2041,3041,7041,12041,18041].map S.heap,[2041,3041,7041,12041,18041].map S.used)=cpObs t c h o p es vs n ps k) (hl:vs.length<=1000) (ha:∀q∈vs,q.length<=1000) :
  ∃b0 cap xs,((E.sv 18041 = .slice none 0 0/\vs=[]/\b0=w1.heap.size)\/(E.sv 18041 = .slice (some ⟨E.ρ 18041,0,none⟩) vs.length cap/\b0=E.ρ 18041)) /\
   CpC.Ok ⟨w.heap.size,E.I,E.ρ 2041,E.ρ 3041,b0,w1,vs,xs,cap,t,c,h,o,p,n,k,E.sv 12041,E.sv 7041,E.sv 18041⟩ /\
   CpC.At ⟨w.heap.size,E.I,E.ρ 2041,E.ρ 3041,b0,w1,vs,xs,cap,t,c,h,o,p,n,k,E.sv 12041,E.sv 7041,E.sv 18041⟩ 0 a w1:=by
 unfold cpObs at ho
 injection ho with he ho
 injection ho with ht ho
 injection ho with hh hu
 simp only[List.map_cons,List.map_nil,List.cons.injEq,and_true] at ht hh hu
 obtain⟨r1,r2,r3,r4⟩:=ht
 obtain⟨o1,o2,o3,o4,o5⟩:=hh
 have f:=hs.tmps 1 (show 1<41 by decide)
 have m:=hs.tmps 2 (show 2<41 by decide)
 have r:=hs.tmps 23 (show 23<41 by decide)
 have s:=hs.tmps 24 (show 24<41 by decide)
 rw[r1] at f
 rw[r2] at m
 rw[r3] at r
 rw[r4] at s
 unfold Rep at f m r s
 have l1:jF E S.heap 2041:=⟨_,o1,trivial⟩
 have hm':=zL.step (N:=w.heap.size) hs (Nat.le_refl _) (zL.nil _ _ _) (fun b hb=>hb.elim)
 obtain⟨_,vs1,ty1,h1,h2⟩:=hs.heap.ob 2041 _ o1
 have k3:=ex_repL (by rfl) h2
 simp only[List.map_cons,List.map_nil,exV] at k3
 subst k3
 obtain⟨_,xs,how,hfl,hsv⟩:=hs.heap.ob 18041 _ o5
 have sl:∀{j:Nat}{e:TypeId}{ty:Ty}{l:List ty.den},S.heap j=some (.row e ty l)->∃a n c,E.sv j = .slice a n c:=by
  intro j e ty l hj
  obtain⟨_,_,hw,_,_⟩:=hs.heap.ob j _ hj
  rcases hw.2 with⟨e,_⟩ |⟨_,_,_,_,_,e,_⟩
  ·exact⟨_,_,_,e⟩
  ·exact⟨_,_,_,e⟩
 rcases how.2 with⟨hn,h0⟩ |⟨g,cap,cur,ty,mk,hv,hg,hc,hcm,hsz,htk,hmk⟩
 ·have hvs:vs=[]:=List.eq_nil_of_length_eq_zero h0
  refine⟨w1.heap.size,0,xs,.inl ⟨hn,hvs,rfl⟩,?_,?_⟩
  ·exact⟨hs.heap.frame.size,hs.heap.lt,hs.heap.imm 2041 l1,fun hI=>Nat.lt_irrefl _ (hs.heap.lt _ hI),(fun e=>by have:=hs.heap.jV l1;have e' : E.ρ 2041=w1.heap.size:=e;omega),hs.heap.jV l1,fun hne=>absurd hvs hne,fun hne=>absurd hvs hne,sl o5,hfl,Nat.le_of_eq h0,Nat.zero_le _,sl o4,sl o3,hl,ha⟩
  ·exact⟨hs.size,hm',f.2,m.2,r,s,Frm.refl _ _,⟨ty1,h1⟩,fun hne=>absurd hvs hne⟩
 ·rcases hsv with hn |⟨cap',hsv⟩
  ·rw[hn] at hv;cases hv
  rw[hsv] at hv
  injection hv with e1 e2 e3
  injection e1 with e1
  injection e1 with e1
  subst e3
  subst e1
  have l5:jF E S.heap 18041:=⟨_,o5,by show E.sv 18041≠_;rw[hsv];simp⟩
  have hty:ty=31/\mk=(0,0):=by
   rcases hmk with h |⟨h,_⟩
   ·exact h
   ·exact absurd h (by decide)
  obtain⟨rfl,rfl⟩:=hty
  have hs1:tIs.size=1:=rfl
  rw[hs1,Nat.mul_one] at hsz htk
  refine⟨E.ρ 18041,cap',xs,.inr ⟨hsv,rfl⟩,?_,?_⟩
  ·refine⟨hs.heap.frame.size,hs.heap.lt,hs.heap.imm 2041 l1,hs.heap.imm 18041 l5,fun e=>?_,hs.heap.jV l1,fun _=>hs.heap.jV l5,fun _=>hsv,sl o5,hfl,hc,hcm,sl o4,sl o3,hl,ha⟩
   have:=hs.heap.inj 2041 18041 l1 l5 e
   cases this
  ·exact⟨hs.size,hm',f.2,m.2,r,s,Frm.refl _ _,⟨ty1,h1⟩,fun _=>⟨cur,xs,hg,hsz,htk,fun _ _=>rfl,fun j d u hj=>absurd hj (Nat.not_lt_zero _)⟩⟩
def isFx:SV->Bool
 |.int _ _=>true
 |.bool _=>true
 |.nils=>true
 |_=>false
theorem fx_repL{E:En}{U:Nat->Bool}{w:World}:∀{cs:List SV},cs.all isFx=true->∀{E0:En},zA E U w cs (cs.map (exV E0))
 | [],_,_=>zA.nil
 |c::cs,h,E0=>by
  simp only[List.all_cons,Bool.and_eq_true] at h
  rw[List.map_cons]
  refine zA.cons ?_ (fx_repL h.2)
  have h1:=h.1
  cases c<;>first |(cases h1;done) |(unfold Rep;rfl)
theorem not_def{w0:World}{M:Nat->Prop}{E:En}{U:Nat->Bool}{H:Hp}{w:World}(hs:HSat w0 M E U H w):∀b,Mof E H b->w.heap[b]? ≠ some (.deferred (some [])):=by
 rintro b ⟨k,⟨o,ho,hl⟩,rfl⟩
 exact (hs.ob k o ho).2.kind hl
abbrev siteCp(t c h o p n k:Int)(es:List E4)(vs:List (List Int))(ps:List Pm):List SV:=[.int .i64 t,.int .i64 c,.int .i64 h,.int .i64 o,.int .i64 p,.own 12041,.sl tIs vs,.int .i64 n,.own 7041,.int .i64 k]
structure CpZ (w:World) (t c h o p n k:Int) (es:List E4) (vs:List (List Int)) (ps:List Pm) (a:Act) (w' : World):Prop where
 ex:∃B E S,SatE B E S a w'/\B.n=41/\zL w.heap.size w' E.I a.defers/\zAd P 41 S (Tryz.f64).results.toList=some [.agg (siteCp t c h o p n k es vs ps)] /\
  S.heap 7041=some (.row 49 tPm ps)/\S.heap 12041=some (.row 47 tEl es)/\(∀b,E.I b->w.heap.size<=b)/\∀j,j=7041\/j=12041->jF E S.heap j->w.heap.size<=E.ρ j
 frame:Frm w (fun _=>False) w'
set_option maxRecDepth 100000 in
theorem cp_tail{w:World}{I:Nat->Prop}{E:En}{S:St}{a1:Act}{w1:World}{t c h o p:Int}{es:List E4}{vs:List (List Int)}{n:Int}{ps:List Pm}{k:Int}
  (hs:SatE ⟨w,fun _=>False,E0 I,noU,41,[]⟩ E S a1 w1) (e:Exit) (ho:(e,[1,2,23,24].map S.tmps,[2041,3041,7041,12041,18041].map S.heap,[2041,3041,7041,12041,18041].map S.used)=cpObs t c h o p es vs n ps k)
  {b0 cap:Nat}{xs:List Value}(hb:(E.sv 18041 = .slice none 0 0/\vs=[]/\b0=w1.heap.size)\/(E.sv 18041 = .slice (some ⟨E.ρ 18041,0,none⟩) vs.length cap/\b0=E.ρ 18041))
  (hC:CpC.Ok ⟨w.heap.size,E.I,E.ρ 2041,E.ρ 3041,b0,w1,vs,xs,cap,t,c,h,o,p,n,k,E.sv 12041,E.sv 7041,E.sv 18041⟩) {a:Act}{w5:World}
  (hA:CpC.At ⟨w.heap.size,E.I,E.ρ 2041,E.ρ 3041,b0,w1,vs,xs,cap,t,c,h,o,p,n,k,E.sv 12041,E.sv 7041,E.sv 18041⟩ vs.length a w5) :
  eCopy.wpIn (FR none) 0 P (fun e a' w' =>e = .ret/\CpZ w t c h o p n k es vs ps a' w') a w5:=by
 unfold cpObs at ho
 injection ho with he ho
 injection ho with ht ho
 injection ho with hh hu
 simp only[List.map_cons,List.map_nil,List.cons.injEq,and_true] at ht hh hu
 obtain⟨o1,o2,o3,o4,o5⟩:=hh
 have H1:=hs.heap
 have l1:jF E S.heap 2041:=⟨_,o1,trivial⟩
 have l2:jF E S.heap 3041:=⟨_,o2,trivial⟩
 have l5:vs≠[]->jF E S.heap 18041:=fun hne=>⟨_,o5,by
  show E.sv 18041≠_
  rcases hb with⟨_,hv,_⟩ |⟨hsv,_⟩
  ·exact absurd hv hne
  ·rw[hsv];simp⟩
 have hb0:vs≠[]->b0=E.ρ 18041:=fun hne=>by
  rcases hb with⟨_,hv,_⟩ |⟨_,h⟩
  ·exact absurd hv hne
  ·exact h
 have hsz:=hA.frame.size
 -- a live object that is no row of the envelopes stays
 have apart:∀j,jF E S.heap j->j≠18041->E.ρ j≠b0:=by
  intro j hj hne he'
  rcases hb with⟨_,_,hb⟩ |⟨hsv,hb⟩
  ·have:=H1.jV hj
   omega
  ·have:=H1.inj j 18041 hj ⟨_,o5,by show E.sv 18041≠_;rw[hsv];simp⟩ (by rw[he',hb])
   exact hne this
 have stay:∀j,jF E S.heap j->j≠18041->j≠2041->w5.heap[E.ρ j]? = w1.heap[E.ρ j]?:=by
  intro j hj h1 h2
  refine hA.frame.block _ (H1.jV hj) fun hM=>?_
  rcases hM with hM |hM
  ·exact h2 (H1.inj j 2041 hj l1 hM)
  ·exact apart j hj h1 hM
 have new:∀j,jF E S.heap j->w.heap.size<=E.ρ j:=fun j hj=>(H1.mine j hj).elim (fun h=>h.elim) id
 have hb0N:w.heap.size<=b0:=by
  rcases hb with⟨_,_,hb⟩ |⟨hsv,hb⟩
  ·have:=H1.frame.size
   have:w.heap.size<=w1.heap.size:=this
   omega
  ·rw[hb]
   exact new 18041 ⟨_,o5,by show E.sv 18041≠_;rw[hsv];simp⟩
 let I5:Nat->Prop:=fun b=>(vs≠[]/\b=b0)\/(w1.heap.size<=b/\b<w5.heap.size/\w5.heap[b]? ≠ some (.deferred (some [])))
 let E5:En:={ E with I:=I5 }
 have hI5:∀b,I5 b->b<w5.heap.size:=by
  rintro b (⟨hne,rfl⟩ |hb)
  ·exact Nat.lt_of_lt_of_le (hC.l0 hne) hsz
  ·exact hb.2.1
 have hkI:∀b,E.I b->w5.heap[b]? = w1.heap[b]?:=fun b hb=>hA.frame.block b (H1.lt b hb) fun hM=>hM.elim (fun e=>hC.i1 (e ▸ hb)) (fun e=>hC.i0 (e ▸ hb))
 have hle:En.Le S.used S.used E E w1 w5:=⟨fun _ h=>h,fun _ _=>rfl,fun _ _=>rfl,fun _ h=>h,hkI,fun _ _=>rfl⟩
 let U5:=apU noU [2041,3041,7041,12041]
 -- a row of flat elements
 have rowOf:∀{j:Nat}{e:TypeId}{ty:Ty}{l:List ty.den},ty.flat=true->j≠18041->j≠2041->S.heap j=some (.row e ty l)->pJ E5 U5 w5 j (.row e ty l):=by
  intro j e ty l hf h1 h2 hj
  obtain⟨hU,hr⟩:=H1.ob j _ hj
  have:=hr.mono hle hU (fun hl=>stay j ⟨_,hj,hl⟩ h1 h2)
  obtain⟨ys,q1,q2,q3⟩:=this
  exact⟨ys,q1,zZ.flat hf _ _ q2,q3⟩
 obtain⟨ty5,hbox⟩:=hA.box
 obtain⟨_,vs2,ty2,z1,z2⟩:=H1.ob 3041 _ o2
 have z3:=ex_repL (by rfl) z2
 have sl:∀{j:Nat}{e:TypeId}{ty:Ty}{l:List ty.den},S.heap j=some (.row e ty l)->∃a n c,E.sv j = .slice a n c:=by
  intro j e ty l hj
  obtain⟨_,_,hw,_,_⟩:=hs.heap.ob j _ hj
  rcases hw.2 with⟨e,_⟩ |⟨_,_,_,_,_,e,_⟩
  ·exact⟨_,_,_,e⟩
  ·exact⟨_,_,_,e⟩
 have henv:zG I5 w5 (.sl tIs) vs [E.sv 18041]:=by
  rcases hb with⟨hn,hv,_⟩ |⟨hsv,hb'⟩
  ·subst hv
   exact⟨_,rfl,none,0,hn,Nat.le_refl _,.inl rfl⟩
  ·refine⟨_,rfl,_,cap,hsv,hC.cap,?_⟩
   by_cases hne:vs=[]
   ·exact .inl hne
   ·obtain⟨cur,us,g1,g2,g3,g4,g5⟩:=hA.row hne
    refine .inr ⟨E.ρ 18041,0,rfl,.inl ⟨hne,hb'.symm⟩,fun i d hd=>?_⟩
    have hi:i<vs.length:=(List.getElem?_eq_some_iff.1 hd).1
    have hul:us.length=vs.length:=by
     have e2:cur.size=cap:=g2
     have e3:cur.toList.take vs.length=us:=g3
     have e4:vs.length<=cur.toList.length:=by
      rw[Array.length_toList]
      exact Nat.le_trans hC.cap (Nat.le_of_eq e2.symm)
     rw[<- e3,List.length_take]
     exact Nat.min_eq_left e4
    obtain⟨u,hu⟩:∃u,us[i]? = some u:=⟨_,List.getElem?_eq_getElem (by omega)⟩
    refine⟨[u],fun m v hv=>?_,zG.mono (fun b hb=>.inr hb) (fun _ _=>rfl) _ _ _ (g5 i d u hi hd hu)⟩
    cases m with
    |succ m=>simp at hv
    |zero=>
     simp only[List.getElem?_cons_zero,Option.some.injEq] at hv
     subst hv
     have e3:cur.toList.take vs.length=us:=g3
     rw[<- e3,List.getElem?_take,if_pos hi,Array.getElem?_toList] at hu
     have g1' : w5.heap[E.ρ 18041]? = some (.cells cur 31 (0,0)):=by rw[<- hb'];exact g1
     refine⟨?_,by simp[World.frozen?,g1']⟩
     simp only[World.cell?,g1',Option.isSome_none,Bool.false_eq_true,if_false]
     rw[show 0+i*tIs.size+0=i by show 0+i*1+0=i;omega]
     exact hu
 have hmem:∀k' o',(k',some o')∈[(2041,some (Ob.box (siteCp t c h o p n k es vs ps))),(3041,some (.box [.int .i64 0,.int .i64 0,.int .i64 0,.int .i64 0,.int .i64 0,.nils,.nils,.int .i64 0,.nils,.int .i64 0])),(7041,some (.row 49 tPm ps)),(12041,some (.row 47 tEl es))]->k'≠18041/\(o'.live E5 k'->jF E S.heap k'):=by
  intro k' o' hk
  simp only[List.mem_cons,List.not_mem_nil,or_false,Prod.mk.injEq,Option.some.injEq] at hk
  rcases hk with⟨rfl,rfl⟩ |⟨rfl,rfl⟩ |⟨rfl,rfl⟩ |⟨rfl,rfl⟩
  ·exact⟨by decide,fun _=>l1⟩
  ·exact⟨by decide,fun _=>l2⟩
  ·exact⟨by decide,fun hl=>⟨_,o3,hl⟩⟩
  ·exact⟨by decide,fun hl=>⟨_,o4,hl⟩⟩
 have hsat:SatE ⟨w5,Mof E5 (cpEnd t c h o p es vs n ps k).heap,E5,U5,41,a.defers⟩ E5 (cpEnd t c h o p es vs n ps k) a w5:=by
  refine wA hA.size rfl ?_ ?_ ?_ ?_ hI5
  ·intro p hp
   simp only[List.mem_cons,List.not_mem_nil,or_false] at hp
   rcases hp with rfl |rfl
   ·unfold Rep;exact⟨rfl,hA.t1⟩
   ·unfold Rep;exact⟨rfl,hA.t2⟩
  ·intro k' o' hk
   simp only[List.mem_cons,List.not_mem_nil,or_false,Prod.mk.injEq,Option.some.injEq] at hk
   rcases hk with⟨rfl,rfl⟩ |⟨rfl,rfl⟩ |⟨rfl,rfl⟩ |⟨rfl,rfl⟩
   ·refine⟨by decide,[.int .i64 t,.int .i64 c,.int .i64 h,.int .i64 o,.int .i64 p,E.sv 12041,E.sv 18041,.int .i64 n,E.sv 7041,.int .i64 k],ty5,hbox,?_⟩
    have ri:∀n,Rep E5 U5 w5 (.int .i64 n) (.int .i64 n):=fun n=>by unfold Rep;rfl
    refine zA.cons (ri _) (zA.cons (ri _) (zA.cons (ri _) (zA.cons (ri _) (zA.cons (ri _) (zA.cons ?_ (zA.cons ?_ (zA.cons (ri _) (zA.cons ?_ (zA.cons (ri _) zA.nil)))))))))
    ·unfold Rep;exact⟨rfl,rfl,sl o4⟩
    ·unfold Rep;exact henv
    ·unfold Rep;exact⟨rfl,rfl,sl o3⟩
   ·refine⟨by decide,vs2,ty2,?_,?_⟩
    ·rw[show E5.ρ 3041=E.ρ 3041 from rfl,stay 3041 l2 (by decide) (by decide)]
     exact z1
    ·rw[z3]
     exact fx_repL (by rfl)
   ·exact⟨by decide,rowOf rfl (by decide) (by decide) o3⟩
   ·exact⟨by decide,rowOf rfl (by decide) (by decide) o4⟩
  ·intro j oj k' ok hj hk lj lk he'
   exact H1.inj j k' ((hmem j oj hj).2 lj) ((hmem k' ok hk).2 lk) he'
  ·intro k' o' hk lk
   have lv:=(hmem k' o' hk).2 lk
   refine⟨?_,k',⟨o',?_,lk⟩,rfl⟩
   ·rintro (⟨hne,hx⟩ |⟨hx,_⟩)
    ·exact apart k' lv (hmem k' o' hk).1 hx
    ·exact absurd (H1.jV lv) (Nat.not_lt.2 hx)
   ·simp only[List.mem_cons,List.not_mem_nil,or_false,Prod.mk.injEq,Option.some.injEq] at hk
    rcases hk with⟨rfl,rfl⟩ |⟨rfl,rfl⟩ |⟨rfl,rfl⟩ |⟨rfl,rfl⟩<;>rfl
 have hMN:∀b,Mof E5 (cpEnd t c h o p es vs n ps k).heap b->w.heap.size<=b:=by
  rintro b ⟨k',⟨o',hk,lk⟩,rfl⟩
  exact new k' ((hmem k' o' (xG hk)).2 lk)
 have f1:Frm w (fun _=>False) w1:=H1.frame
 have f2:=hA.frame
 have hm5:zL w.heap.size w5 I5 a.defers:=hA.marks.fM (fun _ _=>rfl) (fun b hd hI=>by
  rcases hI with⟨hne,rfl⟩ |⟨_,_,hx⟩
  ·obtain⟨cur,us,g1,_⟩:=hA.row hne
   rw[g1] at hd
   cases hd
  ·exact absurd hd hx)
 refine jA hm (r0:=none) (u0:=U5) (cx:=[]) (lp:=fun _=>none) (ys:=[]) (Q:=fun x=>x=(Exit.ret,siteCp t c h o p n k es vs ps,[some (Ob.row 49 tPm ps),some (.row 47 tEl es)]))
  (B:=⟨w5,Mof E5 (cpEnd t c h o p es vs n ps k).heap,E5,U5,41,a.defers⟩) (fun k hk=>hk) (fun h hh=>by cases hh) eCopy 0 (cpEnd t c h o p es vs n ps k) (fun _=>none) (fun e S _=>obsR P 41 Tryz.f64 S fun cs=>obsH S [7041,12041] fun b=>.leaf (e,cs,b)) _ (vQ _ _ _ _) (jP _ _) ?_ ?_ a w5 ⟨E5,hsat⟩
 ·rw[T_cpE]
  exact rfl
 ·intro e S' K' a' w' _ hs' hk
  have hk2:=obsR_holds (P:=P) (n:=41) (fn:=Tryz.f64) (S:=S') (k:=fun cs=>obsH S' [7041,12041] fun b=>.leaf (e,cs,b)) hk
  rcases hk2 with⟨cs,hres,hk⟩ |⟨s,hres,hk⟩
  ·have hq:=wL _ _ hk
   injection hq with he hq
   injection hq with hcs hh
   simp only[List.map_cons,List.map_nil,List.cons.injEq,and_true] at hh
   obtain⟨q1,q2⟩:=hh
   subst hcs
   obtain⟨E6,hsE⟩:=hs'
   have fr:=hsE.heap.frame
   have hI6:∀b,E6.I b->w.heap.size<=b:=by
    intro b hb
    have hf:I5 b\/Mof E5 (cpEnd t c h o p es vs n ps k).heap b\/w5.heap.size<=b:=hsE.fresh b hb
    rcases hf with (⟨_,hx⟩ |⟨hx,_,_⟩) |hx |hx
    ·rw[hx];exact hb0N
    ·exact Nat.le_trans f1.size hx
    ·exact hMN b hx
    ·exact Nat.le_trans f1.size (Nat.le_trans hsz hx)
   refine⟨he,⟨_,E6,S',hsE,rfl,zL.step hsE (Nat.le_trans f1.size hsz) hm5 (not_def hsat.heap),hres,q1,q2,hI6,?_⟩,?_⟩
   ·rintro j hj ⟨oj,hoj,lj⟩
    have hU:U5 j=true:=by rcases hj with rfl |rfl<;>rfl
    have er:E6.ρ j=E.ρ j:=hsE.le.rho j hU
    have es' : E6.sv j=E.sv j:=hsE.le.sv j hU
    rw[er]
    refine new j ?_
    rcases hj with rfl |rfl
    ·rw[q1] at hoj;cases hoj
     exact⟨_,o3,by show E.sv 7041≠_;rw[<- es'];exact lj⟩
    ·rw[q2] at hoj;cases hoj
     exact⟨_,o4,by show E.sv 12041≠_;rw[<- es'];exact lj⟩
   ·refine⟨fr.os.trans (f2.os.trans f1.os),fr.tape.trans (f2.tape.trans f1.tape),fr.output.trans (f2.output.trans f1.output),Nat.le_trans f1.size (Nat.le_trans hsz fr.size),Nat.le_trans f1.drawn (Nat.le_trans f2.drawn fr.drawn),fun x hx _=>?_⟩
    have b1:x<w1.heap.size:=Nat.lt_of_lt_of_le hx f1.size
    have n1:=new 2041 l1
    rw[fr.block x (Nat.lt_of_lt_of_le b1 hsz) (fun hM=>absurd hx (Nat.not_lt.2 (hMN x hM))),f2.block x b1 (fun hM=>?_),f1.block x hx fun x=>x]
    have hM' : x=E.ρ 2041\/x=b0:=hM
    rcases hM' with hM' |hM'<;>omega
  ·have hq:=wL _ _ hk
   injection hq with _ hq
   injection hq with hcs _
   cases hcs
def CpR(w:World)(t c h o p n k:Int)(es:List E4)(vs:List (List Int))(ps:List Pm)(e:Ending)(w' : World):Prop :=
 ∃v,e = .returned v/\Frm w (fun _=>False) w'/\∃E U H,HSat w (fun _=>False) E U H w'/\H 7041=some (.row 49 tPm ps)/\H 12041=some (.row 47 tEl es)/\(∀b,E.I b->w.heap.size<=b)/\Rep E U w' (.agg (siteCp t c h o p n k es vs ps)) v
set_option maxRecDepth 100000 in
theorem copy_new{t c h o p n k:Int}{es:List E4}{vs:List (List Int)}{ps:List Pm}(hes:es.length<=1000) (hvs:vs.length<=1000) (ha:∀q∈vs,q.length<=1000) (hps:ps.length<=1000) {I:Nat->Prop}{w:World}{zM:List Value}
  (hI:∀b,I b->b<w.heap.size) (hr:zA (E0 I) noU w (z_ 0 [.agg zR] ((t,c,h,o,p,(es,vs,n),ps,k),())) zM):Calls P 64 zM.toArray w (CpR w t c h o p n k es vs ps):=by
 have hf:P.funcs[64]? = some Tryz.f64:=by kernel_rfl
 have hc:Tryz.f64.body=some bCopy:=by kernel_rfl
 have hn:Tryz.f64.ntmps=41:=by kernel_rfl
 have hcut:yZ 4 bCopy = .seq xCopy eCopy:=by kernel_rfl
 have hx:xCopy = .seq (yR xCopy) lCopy:=by kernel_rfl
 refine (callsIn_wide (n:=0)).1 (callsIn_of_wp_marks (F:=FR none) hf hc trivial ?_ rfl)
 rw[hn]
 have hsat:=start_sat (n:=41) hI (by show 1<=41;decide) hr
 refine execCut hm (r0:=none) (u0:=noU) (cx:=[c_cpP.gc,c_cpE.gc,c_cloneV.gc]) (lp:=fun _=>none) (ys:=[]) (B:=⟨w,fun _=>False,E0 I,noU,41,[]⟩) (Q:=fun x=>x=cpObs t c h o p es vs n ps k) (fun k hk=>by cases hk) (fun h hh=>by cases hh) 4 bCopy 0
  (fW (z_ 0 [.agg zR] ((t,c,h,o,p,(es,vs,n),ps,k),()))) (fun _=>none) kCpA _ (vQ _ _ _ _) (jP _ _) ?_ ?_ _ w ⟨E0 I,hsat⟩
 ·rw[T_cpA]
  exact⟨hps,hes,hvs,rfl⟩
 ·intro e S' K' a w1 hK' hs' hk
  cases e with
  |normal=>
   show (yZ 4 bCopy).wpIn (FR none) 0 P _ a w1
   rw[hcut]
   refine wpIn_seq ?_
   rw[hx]
   refine wpIn_seq (jA hm (r0:=none) (u0:=noU) (cx:=[]) (lp:=fun _=>none) (ys:=[]) (B:=⟨w,fun _=>False,E0 I,noU,41,[]⟩) (Q:=fun x=>x=cpObs t c h o p es vs n ps k) (fun k hk=>by cases hk) (fun h hh=>by cases hh) (yR xCopy) 0 S' K'
    (fun e S _=>obs [1,2,23,24] [2041,3041,7041,12041,18041] [2041,3041,7041,12041,18041] e S) _ (vQ _ _ _ _) hK' hk ?_ a w1 hs')
   intro e d K4 a4 w4 _ hs4 hk4
   have hq:=yV hk4
   obtain⟨E4',hsE⟩:=hs4
   have he:e = .normal:=congrArg (·.1) hq
   subst he
   obtain⟨b0,cap,xs,hb,hC,hA⟩:=cp_start hsE _ hq hvs ha
   show lCopy.wpIn (FR none) 0 P _ a4 w4
   refine wpIn_mono (cp_loop hC hA) ?_
   rintro e a5 w5 ⟨rfl,hA5⟩
   show eCopy.wpIn (FR none) 0 P _ a5 w5
   refine wpIn_mono (cp_tail hsE _ hq hb hC hA5) ?_
   rintro e a6 w6 ⟨rfl,⟨B,E,S,hsE6,hBn,hm6,hres,q1,q2,hI6,hl6⟩,f6⟩
   show LeavesInM (FR none) 0 P _ a6.tmps _ a6.defers .returning w6
   rw[<- hBn] at hres
   refine leaves_of hsE6 hm6 hres fun v w7 g1 g2 g3 g4 g5 g6 hs7 hrep=>?_
   refine⟨v,rfl,?_,E,S.used,fun j=>if j=7041\/j=12041 then S.heap j else none,?_,(if_pos (.inl rfl)).trans q1,(if_pos (.inr rfl)).trans q2,hI6,hrep⟩
   ·exact⟨g1.trans f6.os,g2.trans f6.tape,g3.trans f6.output,by rw[g5];exact f6.size,by rw[g4];exact f6.drawn,fun b hb hM=>(g6 b fun hN=>absurd hb (Nat.not_lt.2 hN)).trans (f6.block b hb hM)⟩
   ·have hlv:∀j,jF E (fun j=>if j=7041\/j=12041 then S.heap j else none) j->(j=7041\/j=12041)/\jF E S.heap j:=by
     rintro j ⟨o',ho',hl⟩
     dsimp only at ho'
     split at ho'
     ·rename_i hj;exact⟨hj,o',ho',hl⟩
     ·cases ho'
    refine⟨fun j o' hj=>?_,fun i j hi hj he=>hs7.inj i j (hlv i hi).2 (hlv j hj).2 he,fun j hj=>hs7.imm j (hlv j hj).2,hs7.lt,fun j hj=>.inr (hl6 j (hlv j hj).1 (hlv j hj).2),?_⟩
    ·split at hj
     ·exact hs7.ob j o' hj
     ·cases hj
    ·exact⟨g1.trans f6.os,g2.trans f6.tape,g3.trans f6.output,by rw[g5];exact f6.size,by rw[g4];exact f6.drawn,fun b hb hM=>(g6 b fun hN=>absurd hb (Nat.not_lt.2 hN)).trans (f6.block b hb hM)⟩
  |_=>exact hk.elim
theorem row_data{w0:World}{M:Nat->Prop}{E:En}{U:Nat->Bool}{H:Hp}{w:World}(hs:HSat w0 M E U H w) {j:Nat}{e:TypeId}{t:Ty}{l:List t.den}(h:H j=some (.row e t l)) (hf:t.flat=true) {I:Nat->Prop}(hI:jF E H j->I (E.ρ j)):Rep (E0 I) noU w (.sl t l) (E.sv j):=by
 obtain⟨_,xs,how,hfl,hsv⟩:=hs.ob j _ h
 unfold Rep
 refine⟨_,rfl,pA how (zZ.flat hf _ _ hfl) fun b hb=>?_⟩
 rcases hsv with hn |⟨cp,hsv⟩
 ·rw[hn] at hb;cases hb
 ·rw[hsv] at hb
  cases hb
  exact hI ⟨_,h,by show E.sv j≠_;rw[hsv];simp⟩
end
end Go.MB
