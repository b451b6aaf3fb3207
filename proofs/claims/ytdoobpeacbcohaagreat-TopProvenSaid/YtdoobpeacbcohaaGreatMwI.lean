/- Vertical depths; copies and comparisons; the law PathChecks. -/
import Derived.Test.YtdoobpeacbcohaaGreatMwH
import Derived.Test.YtdoobpeacbcohaaGreatMwE
namespace Go.MP
open Go Go.Sx Go.Proofs
set_option linter.unusedVariables false
set_option linter.unusedSimpArgs false
noncomputable section
abbrev tK:Ty:=.pair tI tI
abbrev K2:=Int × Int
def kl:V → Int → List V → List K2
  | _,_,[] => []
  | a,d,v :: r => (IntKind.i64.wrap (d + (wholeS v).1),IntKind.i64.wrap (a.2.2 + v.2.2)) :: kl (vadd a v) (IntKind.i64.wrap (d + (wholeS v).1)) r
def knots (a:V) (l:List V):List K2:=(0,a.2.2) :: kl a 0 l
def vertS (p:Pth):List K2:=if checkS p = 0 then knots p.1 p.2 else []
theorem kl_length:∀ (l:List V) (a:V) (d:Int),(kl a d l).length = l.length
  | [],_,_ => rfl
  | v :: r,a,d => by simp [kl,kl_length r]
theorem knots_length (a:V) (l:List V):(knots a l).length = l.length + 1:=by simp [knots,kl_length]
theorem knots_next' : ∀ (l:List V) (a:V) (d:Int) (i:Nat),i < l.length →
    ((d,a.2.2) :: kl a d l).getD (i + 1) (0,0) = (IntKind.i64.wrap ((((d,a.2.2) :: kl a d l).getD i (0,0)).1 + (wholeS (l.getD i (0,0,0))).1),((jl a l).getD (i + 1) (0,0,0)).2.2)
  | [],_,_,i,h => by cases h
  | v :: r,a,d,0,h => by cases r <;> rfl
  | v :: r,a,d,i + 1,h => by
    have h' : i < r.length:=by simpa using h
    have:=knots_next' r (vadd a v) (IntKind.i64.wrap (d + (wholeS v).1)) i h'
    simpa [kl,jl,vadd] using this
theorem knots_next {l:List V} {a:V} {i:Nat} (h:i < l.length):(knots a l).getD (i + 1) (0,0) = (IntKind.i64.wrap (((knots a l).getD i (0,0)).1 + (wholeS (l.getD i (0,0,0))).1),((jl a l).getD (i + 1) (0,0,0)).2.2):=knots_next' l a 0 i h
def L_Vert:Lay:={ slots:=[(2,.ptr 3037 0),(3,.ptr 4037 0),(16,.clo 74 [(17037,0)])],boxes:=[(3037,[.any]),(4037,[.row 104 tK]),(17037,[.val tI,.val tI,.val tI,.val tVs])] }
def L_Vert_0:Lay:={ slots:=[(2,.ptr 3037 0),(3,.ptr 4037 0)],boxes:=[(3037,[.any]),(4037,[.row 104 tK])] }
def X_Vert:Exit → St → Option Lay
  | .normal,_ => some L_Vert_0
  | _,_ => none
abbrev C_Vert:Code:=loopC (bodyOf Tryz.f16) 0
abbrev A_Vert:Type:=Unit × Unit × Unit × Unit × List K2 × Int × Int × Int × List V × Unit
abbrev Y_Vert (a:A_Vert):List YH:=[⟨990,roundRun (P:=P) [c_plus.gc] [] 37 990 (L_Vert.st noU a).tmps (rgPs C_Vert).toList (rgAssign C_Vert) (rgBody C_Vert)⟩]
abbrev U_Vert (a:A_Vert):Nat → Bool:=apU (L_Vert.st noU a).used [990]
def L_Vert_it:Lay:={ slots:=[(0,.yld 990),(1,.ptr 17037 0),(3,.ptr 4042 0),(10,.val tVs),(11,.val tI),(12,.val tI)],boxes:=[(3037,[.any]),(4037,[.row 104 tK]),(17037,[.val tI,.val tI,.val tI,.val tVs]),(4042,[.val tI,.val tI,.val tI,.val tI,.val tI,.val tI,.val tI,.val tI])],recs:=[(990,.ready)] }
def L_Vert_it_0:Lay:={ slots:=[],boxes:=[(3037,[.any]),(4037,[.row 104 tK])],recs:=[(990,.ready)] }
def X_Vert_it:Exit → St → Option Lay
  | .exit 0,_ => some L_Vert_it_0
  | _,_ => none
abbrev C_Vert_it:Code:=loopC (bodyOf Tryz.f74) 0
theorem B_Vert_it (q:A_Vert) (l:List V) (n i:Int) (o:List K2) (x y z:Int) (l' : List V) (a b c d e f g h:Int):loopBodyA (P:=P) [c_whole.gc,c_plus.gc] (lpOf []) (Y_Vert q) 42 (U_Vert q) (inner C_Vert_it) L_Vert_it X_Vert_it (α:=Unit × Unit × Unit × List V × Int × Int × Unit × List K2 × Int × Int × Int × List V × Int × Int × Int × Int × Int × Int × Int × Int × Unit) (fun x => x) (fun x => x) ((),(),(),l,n,i,(),o,x,y,z,l',a,b,c,d,e,f,g,h,()) =
  Tree.cond (decide (i < n)) (.need ((0:Int) ≤ i ∧ i < (l.length:Int)) (.need ((List.length o + List.length [(IntKind.i64.wrap (d + (wholeS (List.getD l (Int.toNat i) (0,0,0))).fst),IntKind.i64.wrap (c + (List.getD l (Int.toNat i) (0,0,0)).snd.snd))]) * (16:Nat) ≤ (140737488355328:Nat)) (.leaf (Sum.inl ((),(),(),l,n,IntKind.i64.wrap (i + (1:Int)),(),o ++ [(IntKind.i64.wrap (d + (wholeS (List.getD l (Int.toNat i) (0,0,0))).fst),IntKind.i64.wrap (c + (List.getD l (Int.toNat i) (0,0,0)).snd.snd))],x,y,z,l',(vadd (a,b,c) (List.getD l (Int.toNat i) (0,0,0))).fst,(vadd (a,b,c) (List.getD l (Int.toNat i) (0,0,0))).snd.fst,(vadd (a,b,c) (List.getD l (Int.toNat i) (0,0,0))).snd.snd,IntKind.i64.wrap (d + (wholeS (List.getD l (Int.toNat i) (0,0,0))).fst),(List.getD l (Int.toNat i) (0,0,0)).fst,(List.getD l (Int.toNat i) (0,0,0)).snd.fst,(List.getD l (Int.toNat i) (0,0,0)).snd.snd,(wholeS (List.getD l (Int.toNat i) (0,0,0))).fst,()))))) (.leaf (Sum.inr (Exit.exit (0:Nat),Lay.st L_Vert_it_0 (U_Vert q) ((),o,())))):=by kernel_rfl
def inv_Vert_it (q:A_Vert):Unit × Unit × Unit × List V × Int × Int × Unit × List K2 × Int × Int × Int × List V × Int × Int × Int × Int × Int × Int × Int × Int × Unit → Prop:=fun (_,_,_,l,n,i,_,o,x,y,z,_,a,b,c,d,_) => n = l.length ∧ 0 ≤ i ∧ i ≤ n ∧ l.length ≤ 20 ∧ o = (knots (x,y,z) l).take (i.toNat + 1) ∧ (a,b,c) = (jl (x,y,z) l).getD i.toNat (0,0,0) ∧ d = ((knots (x,y,z) l).getD i.toNat (0,0)).1
def O_Vert_it (q:A_Vert):Unit × Unit × Unit × List V × Int × Int × Unit × List K2 × Int × Int × Int × List V × Int × Int × Int × Int × Int × Int × Int × Int × Unit → Tree (Exit × St):=fun (_,_,_,l,n,i,_,o,x,y,z,_) => .leaf (.exit 0,L_Vert_it_0.st (U_Vert q) ((),knots (x,y,z) l,()))
def R_Vert_it (q:A_Vert):LRun:=runOf 42 L_Vert_it (fun x => x) (inv_Vert_it q) (O_Vert_it q)
theorem K_Vert_it (q:A_Vert):LoopOk P (Y_Vert q) 42 none (U_Vert q) C_Vert_it (R_Vert_it q):=by
  refine loop_of hm (cx:=[c_whole.gc,c_plus.gc]) [] (xl:=X_Vert_it) (α:=Unit × Unit × Unit × List V × Int × Int × Unit × List K2 × Int × Int × Int × List V × Int × Int × Int × Int × Int × Int × Int × Int × Unit) (fun x => x) (fun (_,_,_,l,n,i,_) => (n - i).toNat) (fun _ => rfl) (by kernel_rfl) (by kernel_rfl) ?_ (by kernel_rfl) trivial ?_
  · intro e S L' h
    unfold X_Vert_it at h
    split at h <;> first | (cases h; done) | (cases h; kernel_rfl) | (rcases bif_some h with h | h <;> cases h <;> kernel_rfl)
  · rintro ⟨⟨⟩,⟨⟩,⟨⟩,l,n,i,⟨⟩,o,x,y,z,l',a,b,c,d,e,f,g,h,⟨⟩⟩ hinv Q hQ
    refine hold_of_eq (B_Vert_it q l n i o x y z l' a b c d e f g h) ?_
    obtain ⟨rfl,h0,h1,h2,ho,ha,hd⟩:=hinv
    rw [W_id (n:=i + 1) (by omega) (by omega)]
    have hjl:=knots_length (x,y,z) l
    have hlen:o.length = i.toNat + 1:=by rw [ho,List.length_take,hjl]; omega
    refine ⟨fun hi => ?_,fun hi => ?_⟩
    · simp only [decide_eq_true_eq] at hi
      have hn:=jl_next l (x,y,z) i.toNat (by omega)
      rw [← ha] at hn
      have hk:=knots_next (l:=l) (a:=(x,y,z)) (i:=i.toNat) (by omega)
      rw [← hd,hn] at hk
      refine ⟨⟨h0,by omega⟩,by simp only [List.length_cons,List.length_nil]; omega,⟨⟨rfl,by omega,by omega,h2,?_,?_,?_⟩,by show ((l.length:Int) - (i + 1)).toNat < ((l.length:Int) - i).toNat; omega⟩,hQ⟩
      · rw [show (i + 1).toNat = i.toNat + 1 by omega,take_snoc (0,0) (by omega),hk,← ho]
        rfl
      · rw [show (i + 1).toNat = i.toNat + 1 by omega,hn]
      · rw [show (i + 1).toNat = i.toNat + 1 by omega,hk]
    · simp only [decide_eq_false_iff_not] at hi
      have e:o = knots (x,y,z) l:=by rw [ho,List.take_of_length_le (by omega)]
      rw [e]; exact hQ
theorem G_Vert (o:List K2) (x y z:Int) (l:List V):rangeTree (P:=P) [c_plus.gc] (lpOf [(0,R_Vert_it ((),(),(),(),o,x,y,z,l,()))]) [] 37 noU 990 (rgFn C_Vert) (rgPs C_Vert).toList (rgAssign C_Vert) (rgBody C_Vert) X_Vert (L_Vert.st noU ((),(),(),(),o,x,y,z,l,())) =
  Tree.need (inv_Vert_it ((),(),(),(),o,x,y,z,l,()) ((),(),(),l,(l.length:Int),(0:Int),(),o,x,y,z,l,x,y,z,(0:Int),(0:Int),(0:Int),(0:Int),(0:Int),())) (.leaf (Exit.normal,Lay.st L_Vert_0 noU ((),(),(),knots (x,y,z) l,()))):=by kernel_rfl
def inv_Vert:Unit × Unit × Unit × Unit × List K2 × Int × Int × Int × List V × Unit → Prop:=fun (_,_,_,_,o,x,y,z,l,_) => l.length ≤ 20 ∧ o = [(0,z)]
def O_Vert:Unit × Unit × Unit × Unit × List K2 × Int × Int × Int × List V × Unit → Tree (Exit × St):=fun (_,_,_,_,o,x,y,z,l,_) => .leaf (.normal,L_Vert_0.st noU ((),(),(),knots (x,y,z) l,()))
def R_Vert:LRun:=runOf 37 L_Vert (fun x => x) (inv_Vert) (O_Vert)
theorem H_Vert (o:List K2) (x y z:Int) (l:List V) (hinv:inv_Vert ((),(),(),(),o,x,y,z,l,())) (Q:Exit × St → Prop) (hQ:(O_Vert ((),(),(),(),o,x,y,z,l,())).holds Q):Hold Q (rangeTree (P:=P) [c_plus.gc] (lpOf [(0,R_Vert_it ((),(),(),(),o,x,y,z,l,()))]) [] 37 noU 990 (rgFn C_Vert) (rgPs C_Vert).toList (rgAssign C_Vert) (rgBody C_Vert) X_Vert (L_Vert.st noU ((),(),(),(),o,x,y,z,l,()))):=by
    have e:=G_Vert o x y z l
    generalize rangeTree (P:=P) [c_plus.gc] (lpOf [(0,R_Vert_it ((),(),(),(),o,x,y,z,l,()))]) [] 37 noU 990 (rgFn C_Vert) (rgPs C_Vert).toList (rgAssign C_Vert) (rgBody C_Vert) X_Vert (L_Vert.st noU ((),(),(),(),o,x,y,z,l,())) = t at e ⊢
    subst e
    constructor
    obtain ⟨h1,h2⟩:=hinv
    refine ⟨⟨rfl,by omega,by omega,h1,?_,?_,?_⟩,hQ⟩
    · rw [h2]; rfl
    · cases l <;> rfl
    · rfl
theorem J_Vert (a:A_Vert):AllK P (Y_Vert a) 42 none (U_Vert a) (bodyOf Tryz.f74) [(0,R_Vert_it a)]:=⟨K_Vert_it a,trivial⟩
theorem K_Vert:LoopOk P [] 37 none noU C_Vert (R_Vert):=by
  refine range_of hm (cx:=[c_plus.gc]) (xl:=X_Vert) (α:=Unit × Unit × Unit × Unit × List K2 × Int × Int × Int × List V × Unit) (fun x => x) 990 (gf:=74) (fnI:=Tryz.f74) (fun a => [(0,R_Vert_it a)]) (fun _ => rfl) (by kernel_rfl) (by kernel_rfl) ?_ (by kernel_rfl) (fun a => ⟨encK [(17037,0)],by kernel_rfl⟩) (by kernel_rfl) ?_ ?_
  · intro e S L' h
    unfold X_Vert at h
    split at h <;> first | (cases h; done) | (cases h; kernel_rfl) | (rcases bif_some h with h | h <;> cases h <;> kernel_rfl)
  · intro a; exact J_Vert a
  · have tup:∀ Pr:Unit × Unit × Unit × Unit × List K2 × Int × Int × Int × List V × Unit → Prop,(∀ (o:List K2) (x y z:Int) (l:List V),Pr ((),(),(),(),o,x,y,z,l,())) → ∀ a,Pr a:=fun Pr h a => h (a.2.2.2.2.1) (a.2.2.2.2.2.1) (a.2.2.2.2.2.2.1) (a.2.2.2.2.2.2.2.1) (a.2.2.2.2.2.2.2.2.1)
    refine tup _ ?_
    intro o x y z l hinv Q hQ
    exact H_Vert o x y z l hinv Q hQ
theorem T_Vert (x y z:Int) (l:List V):fnTree (P:=P) [c_Check.gc,c_parts.gc] (lpOf [(0,R_Vert)]) Tryz.f16 (encL 0 [.agg tPath] (((x,y,z),l),())) =
  Tree.cond (checkS ((x,y,z),l) != (0:Int)) (.leaf (SV.agg [SV.nils])) (.need (inv_Vert ((),(),(),(),[((0:Int),z)],x,y,z,l,())) (.leaf (SV.agg [SV.sl (Ty.pair tI tI) (knots (x,y,z) l)]))):=by kernel_rfl
def c_Vert:PC P:=PC.of (α:=Pth × Unit) 16 [.agg tPath] (fun x => x) (fun x => x) (fun _ => rfl)
  (fun _ => none)
  (fun x => .agg [.sl tK (vertS x.1)]) (by kernel_rfl) (by
    rintro ⟨⟨⟨x,y,z⟩,l⟩,⟨⟩⟩ hp
    refine fn_le hm (by kernel_rfl) (by kernel_rfl) (T_Vert x y z l) ⟨K_Vert,trivial⟩ (by kernel_rfl) ?_
    show Tree.holds (fun s => LeS s (SV.agg [.sl tK (vertS ((x,y,z),l))])) _
    unfold vertS
    refine ⟨fun h => ?_,fun h => ⟨?_,?_⟩⟩
    · simp only [bne_iff_ne,ne_eq] at h
      rw [if_neg h]
      exact ⟨rfl,trivial⟩
    · simp only [bne_eq_false_iff_eq] at h
      exact ⟨checkS_len h,rfl⟩
    · simp only [bne_eq_false_iff_eq] at h
      rw [if_pos h]
      exact ⟨rfl,trivial⟩)
theorem getD_mem {α:Type} {d:α} {l:List α} {i:Nat} (h:i < l.length):l.getD i d ∈ l:=by
  rw [List.getD,List.getElem?_eq_getElem h]
  exact List.getElem_mem h
end
end Go.MP
