/- Copies of lists and of sites. -/
import Derived.Test.YtfhomgggbhjglaaMbE
namespace Go.MB
open Go Go.Sx Go.Proofs
set_option linter.unusedVariables false
set_option linter.unusedSimpArgs false
noncomputable section
theorem FreshOk.byNil {P:Program} {f:FuncId} {t:Ty} {l:List t.den} {o:SV} (h:∀ b,(b = true → l = []) → FreshOk P f [.nsl t l b] o):FreshOk P f [.sl t l] o:=by
  intro I w vals hI hr
  have hr':=hr
  unfold RepL at hr'
  obtain ⟨v,r,rfl,hv,hr2⟩:=hr'
  classical
  refine h (decide (∃ n c,v = .slice none n c)) (fun hb => ?_) I w _ hI ?_
  · obtain ⟨n,c,hn⟩:=of_decide_eq_true hb
    unfold Rep at hv
    obtain ⟨u,hu,p,cap,e,_,hl⟩:=hv
    cases hu
    rcases hl with hl | ⟨b,o,hp,_⟩
    · exact hl
    · rw [hn] at e
      cases e
      cases hp
  · show RepL _ _ w [SV.nsl t l _] (v :: r)
    refine RepL.cons ?_ hr2
    unfold Rep at hv ⊢
    exact ⟨hv,decide_eq_true_iff⟩
theorem T_cloneIN (l:List Int) (b:Bool):frTree (P:=P) [] (lpOf []) Try.f66 (encL 0 [.oval tI] ((l,b),())) =
  Tree.cond b (.leaf SV.nils) (.need (((0:Nat) + List.length l) * (8:Nat) ≤ (140737488355328:Nat)) (.leaf (SV.sl (Ty.int IntKind.i64) l))):=by kernel_rfl
def c_cloneIN:FC P:=FC.of (α:=(List Int × Bool) × Unit) 66 [.oval tI] (fun x => x) (fun x => x) (fun _ => rfl)
  (fun x => some ((x.1.2 = true → x.1.1 = []) ∧ x.1.1.length ≤ 1000))
  (fun x => .sl tI x.1.1) (by kernel_rfl) (by
    rintro ⟨⟨l,b⟩,⟨⟩⟩ hp
    refine fr_le hm (by kernel_rfl) (by kernel_rfl) (T_cloneIN l b) trivial (by kernel_rfl) ?_
    obtain ⟨h1,h2⟩ : (b = true → l = []) ∧ l.length ≤ 1000:=hp
    refine ⟨fun h => ?_,fun _ => ⟨by omega,rfl⟩⟩
    rw [h1 h]; exact rfl)
theorem T_clonePN (l:List Pm) (b:Bool):frTree (P:=P) [] (lpOf []) Try.f63 (encL 0 [.oval tPm] ((l,b),())) =
  Tree.cond b (.leaf SV.nils) (.need (((0:Nat) + List.length l) * (32:Nat) ≤ (140737488355328:Nat)) (.leaf (SV.sl (Ty.pair (Ty.int IntKind.i64) (Ty.pair (Ty.int IntKind.i64) (Ty.pair (Ty.int IntKind.i64) Ty.bool))) l))):=by kernel_rfl
def c_clonePN:FC P:=FC.of (α:=(List Pm × Bool) × Unit) 63 [.oval tPm] (fun x => x) (fun x => x) (fun _ => rfl)
  (fun x => some ((x.1.2 = true → x.1.1 = []) ∧ x.1.1.length ≤ 1000))
  (fun x => .sl tPm x.1.1) (by kernel_rfl) (by
    rintro ⟨⟨l,b⟩,⟨⟩⟩ hp
    refine fr_le hm (by kernel_rfl) (by kernel_rfl) (T_clonePN l b) trivial (by kernel_rfl) ?_
    obtain ⟨h1,h2⟩ : (b = true → l = []) ∧ l.length ≤ 1000:=hp
    refine ⟨fun h => ?_,fun _ => ⟨by omega,rfl⟩⟩
    rw [h1 h]; exact rfl)
theorem T_cloneEN (l:List E4) (b:Bool):frTree (P:=P) [] (lpOf []) Try.f64 (encL 0 [.oval tEl] ((l,b),())) =
  Tree.cond b (.leaf SV.nils) (.need (((0:Nat) + List.length l) * (32:Nat) ≤ (140737488355328:Nat)) (.leaf (SV.sl (Ty.pair (Ty.int IntKind.i64) (Ty.pair (Ty.int IntKind.i64) (Ty.pair (Ty.int IntKind.i64) (Ty.int IntKind.i64)))) l))):=by kernel_rfl
def c_cloneEN:FC P:=FC.of (α:=(List E4 × Bool) × Unit) 64 [.oval tEl] (fun x => x) (fun x => x) (fun _ => rfl)
  (fun x => some ((x.1.2 = true → x.1.1 = []) ∧ x.1.1.length ≤ 1000))
  (fun x => .sl tEl x.1.1) (by kernel_rfl) (by
    rintro ⟨⟨l,b⟩,⟨⟩⟩ hp
    refine fr_le hm (by kernel_rfl) (by kernel_rfl) (T_cloneEN l b) trivial (by kernel_rfl) ?_
    obtain ⟨h1,h2⟩ : (b = true → l = []) ∧ l.length ≤ 1000:=hp
    refine ⟨fun h => ?_,fun _ => ⟨by omega,rfl⟩⟩
    rw [h1 h]; exact rfl)
theorem nilS_own:NilS .nils (.own 100):=by simp [NilS,newBase]
def L_cloneVN:Lay:={ slots:=[(0,.oval tIs)] }
theorem T_cloneVN (l:List (List Int)) (b:Bool):mTree (P:=P) [] (lpOf []) Try.f65 L_cloneVN true ((l,b),()) =
  Tree.cond b (.leaf { res:=SV.nils,boxes:=[] }) (.need (((0:Nat) + List.length l) * (24:Nat) ≤ (140737488355328:Nat)) (.leaf { res:=SV.own (nat_lit 100),boxes:=[],news:=[Ob.row (22:Nat) (Ty.sl (Ty.int IntKind.i64)) l] })):=by kernel_rfl
def c_cloneVN:MC P:=MC.of (α:=(List (List Int) × Bool) × Unit) 65 L_cloneVN (fun x => x) (fun x => x) (fun _ => rfl)
  (fun x => some ((x.1.2 = true → x.1.1 = []) ∧ x.1.1.length ≤ 1000))
  (fun x => ⟨.own 100,[],[.row 22 tIs x.1.1]⟩) (by kernel_rfl) (by kernel_rfl) (by kernel_rfl) (by
    rintro ⟨⟨l,b⟩,⟨⟩⟩ hp
    refine m_nil hm (own:=true) (by kernel_rfl) (by kernel_rfl) (by kernel_rfl) (T_cloneVN l b) trivial (by kernel_rfl) (by kernel_rfl) ?_
    obtain ⟨h1,h2⟩ : (b = true → l = []) ∧ l.length ≤ 1000:=hp
    exact ⟨fun h => .inr ⟨rfl,rfl,h1 h,nilS_own⟩,fun _ => ⟨by omega,.inl rfl⟩⟩)
def c_cloneI:FC P where
  f:=c_cloneIN.f
  ps:=[.val (.sl tI)]
  pre:=fun x => some (List.length (α:=Int) x.1 ≤ 1000)
  out:=fun x => .sl tI x.1
  ent:=c_cloneIN.ent
  ok:=fun x h => FreshOk.byNil fun b hb => c_cloneIN.ok ((x.1,b),()) ⟨hb,h⟩
def c_cloneP:FC P where
  f:=c_clonePN.f
  ps:=[.val (.sl tPm)]
  pre:=fun x => some (List.length (α:=Pm) x.1 ≤ 1000)
  out:=fun x => .sl tPm x.1
  ent:=c_clonePN.ent
  ok:=fun x h => FreshOk.byNil fun b hb => c_clonePN.ok ((x.1,b),()) ⟨hb,h⟩
def c_cloneE:FC P where
  f:=c_cloneEN.f
  ps:=[.val (.sl tEl)]
  pre:=fun x => some (List.length (α:=E4) x.1 ≤ 1000)
  out:=fun x => .sl tEl x.1
  ent:=c_cloneEN.ent
  ok:=fun x h => FreshOk.byNil fun b hb => c_cloneEN.ok ((x.1,b),()) ⟨hb,h⟩
def c_cloneV:MC P where
  f:=c_cloneVN.f
  L:={ slots:=[(0,.val tIss)] }
  pre:=fun x => some (List.length (α:=List Int) x.1 ≤ 1000)
  out:=fun x => ⟨.own 100,[],[.row 22 tIs x.1]⟩
  mok:=by kernel_rfl
  ent:=c_cloneVN.ent
  pok:=by kernel_rfl
  ok:=fun x h => MFnOk.byNil fun b hb => c_cloneVN.ok ((x.1,b),()) ⟨hb,h⟩
def sOk (s:Site):Prop:=hOk s.2.2.2.2.2.1 ∧ s.2.2.2.2.2.2.1.length ≤ 1000
theorem set_same {α:Type} (d:α) (l:List α) (i:Nat):l.set i (l.getD i d) = l:=by
  apply List.ext_getElem?
  intro k
  rw [List.getElem?_set]
  split
  · rename_i h
    subst h
    rw [List.getD_eq_getElem?_getD]
    cases e:l[i]? with
    | none =>
      rw [List.getElem?_eq_none_iff] at e
      rw [if_neg (by omega)]
    | some v =>
      have:=(List.getElem?_eq_some_iff.1 e).1
      rw [if_pos (by omega)]; rfl
  · rfl
def L_Copy0:Lay:={ slots:=[(1,.ptr 2041 0),(2,.ptr 3041 0),(23,.val tI),(24,.val tI)],boxes:=[(2041,[.val tI,.val tI,.val tI,.val tI,.val tI,.val (.sl (.pair tI tV)),.row 22 tIs,.val tI,.val (.sl (.pair tI (.pair tI (.pair tI .bool)))),.val tI]),(3041,[.val tI,.val tI,.val tI,.val tI,.val tI,.val (.sl (.pair tI tV)),.val (.sl tIs),.val tI,.val (.sl (.pair tI (.pair tI (.pair tI .bool)))),.val tI])] }
def L_Copy0_0:Lay:={ slots:=[(1,.ptr 2041 0),(2,.ptr 3041 0)],boxes:=[(2041,[.val tI,.val tI,.val tI,.val tI,.val tI,.val (.sl (.pair tI tV)),.row 22 tIs,.val tI,.val (.sl (.pair tI (.pair tI (.pair tI .bool)))),.val tI]),(3041,[.val tI,.val tI,.val tI,.val tI,.val tI,.val (.sl (.pair tI tV)),.val (.sl tIs),.val tI,.val (.sl (.pair tI (.pair tI (.pair tI .bool)))),.val tI])] }
def X_Copy0:Exit → St → Option Lay
  | .exit 0,_ => some L_Copy0_0
  | _,_ => none
abbrev C_Copy0:Code:=loopC (bodyOf Try.f39) 0
theorem B_Copy0 (n i b1_0 b1_1 b1_2 b1_3 b1_4:Int) (b1_5:List (Int × V)) (envs:List (List Int)) (b1_7:Int) (b1_8:List (Int × (Int × (Int × Bool)))) (b1_9 b2_0 b2_1 b2_2 b2_3 b2_4:Int) (b2_5:List (Int × V)) (b2_6:List (List Int)) (b2_7:Int) (b2_8:List (Int × (Int × (Int × Bool)))) (b2_9:Int):loopBodyA (P:=P) [c_cloneI.gc] (lpOf []) [] 41 noU (inner C_Copy0) L_Copy0 X_Copy0 (α:=Unit × Unit × Int × Int × Int × Int × Int × Int × Int × List (Int × V) × List (List Int) × Int × List (Int × (Int × (Int × Bool))) × Int × Int × Int × Int × Int × Int × List (Int × V) × List (List Int) × Int × List (Int × (Int × (Int × Bool))) × Int × Unit) (fun x => x) (fun x => x) ((),(),n,i,b1_0,b1_1,b1_2,b1_3,b1_4,b1_5,envs,b1_7,b1_8,b1_9,b2_0,b2_1,b2_2,b2_3,b2_4,b2_5,b2_6,b2_7,b2_8,b2_9,()) =
  Tree.cond (decide (i < n)) (.need ((0:Int) ≤ i ∧ i < (envs.length:Int)) (.need (Int.toNat i < List.length envs) (.need (List.length (List.getD envs (Int.toNat i) []) ≤ (1000:Nat)) (.need ((0:Int) ≤ i ∧ i < (envs.length:Int)) (.need (Int.toNat i < List.length envs) (.leaf (Sum.inl ((),(),n,IntKind.i64.wrap (i + (1:Int)),b1_0,b1_1,b1_2,b1_3,b1_4,b1_5,List.set envs (Int.toNat i) (List.getD envs (Int.toNat i) []),b1_7,b1_8,b1_9,b2_0,b2_1,b2_2,b2_3,b2_4,b2_5,b2_6,b2_7,b2_8,b2_9,())))))))) (.leaf (Sum.inr (Exit.exit (0:Nat),Lay.st L_Copy0_0 noU ((),(),b1_0,b1_1,b1_2,b1_3,b1_4,b1_5,envs,b1_7,b1_8,b1_9,b2_0,b2_1,b2_2,b2_3,b2_4,b2_5,b2_6,b2_7,b2_8,b2_9,())))):=by kernel_rfl
def inv_Copy0:Unit × Unit × Int × Int × Int × Int × Int × Int × Int × List (Int × V) × List (List Int) × Int × List (Int × (Int × (Int × Bool))) × Int × Int × Int × Int × Int × Int × List (Int × V) × List (List Int) × Int × List (Int × (Int × (Int × Bool))) × Int × Unit → Prop:=fun ((),(),n,i,b1_0,b1_1,b1_2,b1_3,b1_4,b1_5,envs,b1_7,b1_8,b1_9,b2_0,b2_1,b2_2,b2_3,b2_4,b2_5,b2_6,b2_7,b2_8,b2_9,()) => 0 ≤ i ∧ i ≤ n ∧ n = envs.length ∧ envs.length ≤ 1000 ∧ ∀ q ∈ envs,q.length ≤ 1000
def O_Copy0:Unit × Unit × Int × Int × Int × Int × Int × Int × Int × List (Int × V) × List (List Int) × Int × List (Int × (Int × (Int × Bool))) × Int × Int × Int × Int × Int × Int × List (Int × V) × List (List Int) × Int × List (Int × (Int × (Int × Bool))) × Int × Unit → Tree (Exit × St):=fun ((),(),n,i,b1_0,b1_1,b1_2,b1_3,b1_4,b1_5,envs,b1_7,b1_8,b1_9,b2_0,b2_1,b2_2,b2_3,b2_4,b2_5,b2_6,b2_7,b2_8,b2_9,()) => (.leaf (.exit 0,L_Copy0_0.st noU ((),(),b1_0,b1_1,b1_2,b1_3,b1_4,b1_5,envs,b1_7,b1_8,b1_9,b2_0,b2_1,b2_2,b2_3,b2_4,b2_5,b2_6,b2_7,b2_8,b2_9,())))
def R_Copy0:LRun:=runOf 41 L_Copy0 (fun x => x) (inv_Copy0) (O_Copy0)
theorem K_Copy0:LoopOk P [] 41 none noU C_Copy0 (R_Copy0):=by
  refine loop_of hm (cx:=[c_cloneI.gc]) [] (xl:=X_Copy0) (α:=Unit × Unit × Int × Int × Int × Int × Int × Int × Int × List (Int × V) × List (List Int) × Int × List (Int × (Int × (Int × Bool))) × Int × Int × Int × Int × Int × Int × List (Int × V) × List (List Int) × Int × List (Int × (Int × (Int × Bool))) × Int × Unit) (fun x => x) (fun ((),(),n,i,b1_0,b1_1,b1_2,b1_3,b1_4,b1_5,envs,b1_7,b1_8,b1_9,b2_0,b2_1,b2_2,b2_3,b2_4,b2_5,b2_6,b2_7,b2_8,b2_9,()) => (n - i).toNat) (fun _ => rfl) (by kernel_rfl) (by kernel_rfl) ?_ (by kernel_rfl) trivial ?_
  · intro e S L' h
    unfold X_Copy0 at h
    split at h <;> first | (cases h; done) | (cases h; kernel_rfl) | (rcases bif_some h with h | h <;> cases h <;> kernel_rfl)
  · rintro ⟨⟨⟩,⟨⟩,n,i,b1_0,b1_1,b1_2,b1_3,b1_4,b1_5,envs,b1_7,b1_8,b1_9,b2_0,b2_1,b2_2,b2_3,b2_4,b2_5,b2_6,b2_7,b2_8,b2_9,⟨⟩⟩ hinv Q hQ
    refine hold_of_eq (B_Copy0 n i b1_0 b1_1 b1_2 b1_3 b1_4 b1_5 envs b1_7 b1_8 b1_9 b2_0 b2_1 b2_2 b2_3 b2_4 b2_5 b2_6 b2_7 b2_8 b2_9) ?_
    obtain ⟨h0,h1,rfl,h2,h3⟩:=hinv
    rw [W_id (n:=i + 1) (by omega) (by omega),set_same]
    refine ⟨fun c1 => ?_,fun c1 => hQ⟩
    have c1:=of_decide_eq_true c1
    have i1:0 ≤ i ∧ i < (envs.length:Int):=⟨h0,c1⟩
    exact ⟨i1,by omega,h3 _ (getD_mem (by omega)),i1,by omega,⟨⟨by omega,by omega,rfl,h2,h3⟩,by show ((envs.length:Int) - (i + 1)).toNat < ((envs.length:Int) - i).toNat; omega⟩,hQ⟩
theorem T_Copy (s_0 s_1 s_2 s_3 s_4:Int) (s_5:List (Int × V)) (s_6:List (List Int)) (s_7:Int) (s_8:List (Int × (Int × (Int × Bool)))) (s_9:Int):fnTree (P:=P) [c_cloneP.gc,c_cloneE.gc,c_cloneV.gc] (lpOf [(0,R_Copy0)]) Try.f39 (encL 0 [.agg (.pair tI (.pair tI (.pair tI (.pair tI (.pair tI (.pair (.pair (.sl (.pair tI tV)) (.pair (.sl tIs) tI)) (.pair (.sl (.pair tI (.pair tI (.pair tI .bool)))) tI)))))))] ((s_0,(s_1,(s_2,(s_3,(s_4,((s_5,(s_6,s_7)),(s_8,s_9))))))),())) =
  Tree.need (List.length s_8 ≤ (1000:Nat)) (.need (List.length s_5 ≤ (1000:Nat)) (.need (List.length s_6 ≤ (1000:Nat)) (.need (inv_Copy0 ((),(),(s_6.length:Int),(0:Int),s_0,s_1,s_2,s_3,s_4,s_5,s_6,s_7,s_8,s_9,(0:Int),(0:Int),(0:Int),(0:Int),(0:Int),[],[],(0:Int),[],(0:Int),())) (.leaf (SV.agg [SV.int IntKind.i64 s_0,SV.int IntKind.i64 s_1,SV.int IntKind.i64 s_2,SV.int IntKind.i64 s_3,SV.int IntKind.i64 s_4,SV.sl (Ty.pair tI tV) s_5,SV.sl (Ty.sl tI) s_6,SV.int IntKind.i64 s_7,SV.sl (Ty.pair tI (Ty.pair tI (Ty.pair tI Ty.bool))) s_8,SV.int IntKind.i64 s_9]))))):=by kernel_rfl
def c_Copy:PC P:=PC.of (α:=(Int × (Int × (Int × (Int × (Int × ((List (Int × V) × (List (List Int) × Int)) × (List (Int × (Int × (Int × Bool))) × Int))))))) × Unit) 39 [.agg (.pair tI (.pair tI (.pair tI (.pair tI (.pair tI (.pair (.pair (.sl (.pair tI tV)) (.pair (.sl tIs) tI)) (.pair (.sl (.pair tI (.pair tI (.pair tI .bool)))) tI)))))))] (fun x => x) (fun x => x) (fun _ => rfl)
  (fun x => some (sOk x.1))
  (fun x => .agg [.int .i64 x.1.1,.int .i64 x.1.2.1,.int .i64 x.1.2.2.1,.int .i64 x.1.2.2.2.1,.int .i64 x.1.2.2.2.2.1,.sl tEl x.1.2.2.2.2.2.1.1,.sl tIs x.1.2.2.2.2.2.1.2.1,.int .i64 x.1.2.2.2.2.2.1.2.2,.sl tPm x.1.2.2.2.2.2.2.1,.int .i64 x.1.2.2.2.2.2.2.2]) (by kernel_rfl) (by
    rintro ⟨⟨s_0,⟨s_1,⟨s_2,⟨s_3,⟨s_4,⟨⟨s_5,⟨s_6,s_7⟩⟩,⟨s_8,s_9⟩⟩⟩⟩⟩⟩⟩,⟨⟩⟩ hp
    refine fn_le hm (by kernel_rfl) (by kernel_rfl) (T_Copy s_0 s_1 s_2 s_3 s_4 s_5 s_6 s_7 s_8 s_9) ⟨K_Copy0,trivial⟩ (by kernel_rfl) ?_
    try dsimp only at hp
    try dsimp only
    obtain ⟨⟨p1,p2,p3⟩,p4⟩ : sOk (s_0,s_1,s_2,s_3,s_4,(s_5,s_6,s_7),s_8,s_9):=hp
    exact ⟨p4,p1,p2,⟨by decide,by omega,rfl,p2,p3⟩,rfl,rfl,rfl,rfl,rfl,rfl,rfl,rfl,rfl,rfl,trivial⟩)
end
end Go.MB
