/- The law BarrierCuts. -/
import Derived.Test.YtfhomgggbhjglaaGreatMdE
import Derived.Test.YtfhomgggbhjglaaGreatMuK
namespace Go.MB
open Go Go.Sx Go.Proofs
set_option linter.unusedVariables false
set_option linter.unusedSimpArgs false
noncomputable section
def L_SameMvL:Lay:={ slots:=[(0,.val (.sl tIs)),(1,.val (.sl tIs)),(5,.val tI)] }
def L_SameMvL_0:Lay:={ slots:=[(4,.val .bool)] }
def L_SameMvL_1:Lay:={ slots:=[] }
def X_SameMvL:Exit → St → Option Lay
  | .ret,_ => some L_SameMvL_0
  | .exit 0,_ => some L_SameMvL_1
  | _,_ => none
abbrev C_SameMvL:Code:=loopC (bodyOf Tryz.f42) 0
theorem B_SameMvL (a b:List (List Int)) (i:Int):loopBodyA (P:=P) [c_SameInts.gc] (lpOf []) [] 27 noU (inner C_SameMvL) L_SameMvL X_SameMvL (α:=List (List Int) × List (List Int) × Int × Unit) (fun x => x) (fun x => x) (a,b,i,()) =
  Tree.cond (decide (i < (a.length:Int))) (.need ((0:Int) ≤ i ∧ i < (a.length:Int)) (.need ((0:Int) ≤ i ∧ i < (b.length:Int)) (.need (List.getD a (Int.toNat i) [] = List.getD b (Int.toNat i) [] ∧ (↑(List.length (List.getD a (Int.toNat i) [])):Int) < (2:Int) ^ (62:Nat)) (.cond false (.leaf (Sum.inr (Exit.ret,Lay.st L_SameMvL_0 noU (false,())))) (.leaf (Sum.inl (a,b,IntKind.i64.wrap (i + (1:Int)),()))))))) (.leaf (Sum.inr (Exit.exit (0:Nat),Lay.st L_SameMvL_1 noU ()))):=by kernel_rfl
def inv_SameMvL:List (List Int) × List (List Int) × Int × Unit → Prop:=fun (a,b,i,()) => 0 ≤ i ∧ i ≤ a.length ∧ a = b ∧ (a.length:Int) < 2 ^ 62 ∧ ∀ x ∈ a,(x.length:Int) < 2 ^ 62
def O_SameMvL:List (List Int) × List (List Int) × Int × Unit → Tree (Exit × St):=fun (a,b,i,()) => (.leaf (.exit 0,L_SameMvL_1.st noU ()))
def R_SameMvL:LRun:=runOf 27 L_SameMvL (fun x => x) (inv_SameMvL) (O_SameMvL)
theorem K_SameMvL:LoopOk P [] 27 none noU C_SameMvL (R_SameMvL):=by
  refine loop_of hm (cx:=[c_SameInts.gc]) [] (xl:=X_SameMvL) (α:=List (List Int) × List (List Int) × Int × Unit) (fun x => x) (fun (a,b,i,()) => (a.length - i).toNat) (fun _ => rfl) (by kernel_rfl) (by kernel_rfl) ?_ (by kernel_rfl) trivial ?_
  · intro e S L' h
    unfold X_SameMvL at h
    split at h <;> first | (cases h; done) | (cases h; kernel_rfl) | (rcases bif_some h with h | h <;> cases h <;> kernel_rfl)
  · rintro ⟨a,b,i,⟨⟩⟩ hinv Q hQ
    refine hold_of_eq (B_SameMvL a b i) ?_
    obtain ⟨h0,h1,rfl,h2,h3⟩:=hinv
    rw [W_id (n:=i + 1) (by omega) (by omega)]
    refine ⟨fun c1 => ?_,fun c1 => hQ⟩
    have c1:=of_decide_eq_true c1
    exact ⟨⟨h0,c1⟩,⟨h0,c1⟩,⟨rfl,h3 _ (getD_mem (d:=([] : List Int)) (show i.toNat < a.length by omega))⟩,fun c2 => (by cases c2),fun c2 => ⟨⟨⟨by omega,by omega,rfl,h2,h3⟩,by show ((a.length:Int) - (i + 1)).toNat < ((a.length:Int) - i).toNat; omega⟩,hQ⟩⟩
theorem T_SameMoves (a b:List (List Int)):fnTree (P:=P) [] (lpOf [(0,R_SameMvL)]) Tryz.f42 (encL 0 [.val (.sl tIs),.val (.sl tIs)] (a,b,())) =
  Tree.cond ((a.length:Int) != (b.length:Int)) (.leaf (SV.bool false)) (.need (inv_SameMvL (a,b,(0:Int),())) (.leaf (SV.bool true))):=by kernel_rfl
def c_SameMoves:PC P:=PC.of (α:=List (List Int) × List (List Int) × Unit) 42 [.val (.sl tIs),.val (.sl tIs)] (fun x => x) (fun x => x) (fun _ => rfl)
  (fun x => some (x.1 = x.2.1 ∧ (x.1.length:Int) < 2 ^ 62 ∧ ∀ y ∈ x.1,(y.length:Int) < 2 ^ 62))
  (fun x => .bool true) (by kernel_rfl) (by
    rintro ⟨a,b,⟨⟩⟩ hp
    refine fn_of hm (by kernel_rfl) (by kernel_rfl) (T_SameMoves a b) ⟨K_SameMvL,trivial⟩ ?_
    try dsimp only at hp
    try dsimp only
    obtain ⟨rfl,h1,h2⟩ : a = b ∧ (a.length:Int) < 2 ^ 62 ∧ ∀ x ∈ a,(x.length:Int) < 2 ^ 62:=hp
    exact ⟨fun c1 => absurd c1 (by simp),fun c1 => ⟨⟨by decide,by omega,rfl,h1,h2⟩,rfl⟩⟩)
theorem cutsS_len (h:Hs) (tick press:Int):((cutsS h tick press).length:Int) < 2 ^ 62 ∧ ∀ x ∈ cutsS h tick press,(x.length:Int) < 2 ^ 62:=by
  unfold cutsS
  by_cases c:houseE h ≠ 0 ∨ holdsS h tick press = false
  · rw [if_pos c]
    exact ⟨by show ((0:Nat):Int) < 2 ^ 62; decide,fun x hx => by cases hx⟩
  · rw [if_neg c]
    have c1:houseE h = 0:=by
      apply Classical.byContradiction
      intro q
      exact c (.inl q)
    have hp:=pow_le (houseE_ok c1).e10
    have hl:=@szS_len (2 ^ h.1.length) (wkS h tick press) (hdM h) 10 1 []
    unfold ctS
    refine ⟨?_,fun x hx => ?_⟩
    · rw [List.length_map]
      rw [List.length_nil] at hl
      omega
    · obtain ⟨s,_,rfl⟩:=List.mem_map.1 hx
      rw [lsI_len]
      have:=cnt_le10 s.toNat
      omega
def L_BCuts0:Lay:={ slots:=[(9,.row 25 (.pair (.sl (.pair tI tV)) (.pair (.sl tIs) tI))),(10,.row 2 tI),(11,.row 2 tI),(12,.val tI)] }
def L_BCuts0_0:Lay:={ slots:=[(8,.val .bool)] }
def L_BCuts0_1:Lay:={ slots:=[] }
def X_BCuts0:Exit → St → Option Lay
  | .ret,_ => some L_BCuts0_0
  | .exit 0,_ => some L_BCuts0_1
  | _,_ => none
abbrev C_BCuts0:Code:=loopC (bodyOf Tryz.f8) 0
theorem B_BCuts0 (hs:List (List (Int × V) × (List (List Int) × Int))) (ts ps:List Int) (k:Int):loopBodyA (P:=P) [c_Lapse.gc,c_rLapse.gc,c_Cuts.gc,c_rCuts.gc,c_SameMoves.gc] (lpOf []) [] 108 noU (inner C_BCuts0) L_BCuts0 X_BCuts0 (α:=List (List (Int × V) × (List (List Int) × Int)) × List Int × List Int × Int × Unit) (fun x => x) (fun x => x) (hs,ts,ps,k,()) =
  Tree.cond (decide (k < (2:Int))) (.need ((0:Int) ≤ k ∧ k < (hs.length:Int)) (.need (Int.toNat k < List.length hs) (.need ((0:Int) ≤ k ∧ k < (ts.length:Int)) (.need (Int.toNat k < List.length ts) (.need ((0:Int) ≤ k ∧ k < (ps.length:Int)) (.need (Int.toNat k < List.length ps) (.need (hOk (List.getD hs (Int.toNat k) ([],[],(0:Int)))) (.need ((0:Int) ≤ k ∧ k < (hs.length:Int)) (.need (Int.toNat k < List.length hs) (.need ((0:Int) ≤ k ∧ k < (ts.length:Int)) (.need (Int.toNat k < List.length ts) (.need ((0:Int) ≤ k ∧ k < (ps.length:Int)) (.need (Int.toNat k < List.length ps) (.need (hOk (List.getD hs (Int.toNat k) ([],[],(0:Int)))) (.cond ((lapS (List.getD hs (Int.toNat k) ([],[],(0:Int))) (List.getD ts (Int.toNat k) (0:Int)) (List.getD ps (Int.toNat k) (0:Int))).fst != (lapS (List.getD hs (Int.toNat k) ([],[],(0:Int))) (List.getD ts (Int.toNat k) (0:Int)) (List.getD ps (Int.toNat k) (0:Int))).fst) (.leaf (Sum.inr (Exit.ret,Lay.st L_BCuts0_0 noU (false,())))) (.cond (!(lapS (List.getD hs (Int.toNat k) ([],[],(0:Int))) (List.getD ts (Int.toNat k) (0:Int)) (List.getD ps (Int.toNat k) (0:Int))).snd == (lapS (List.getD hs (Int.toNat k) ([],[],(0:Int))) (List.getD ts (Int.toNat k) (0:Int)) (List.getD ps (Int.toNat k) (0:Int))).snd) (.leaf (Sum.inr (Exit.ret,Lay.st L_BCuts0_0 noU (false,())))) (.need ((0:Int) ≤ k ∧ k < (hs.length:Int)) (.need (Int.toNat k < List.length hs) (.need ((0:Int) ≤ k ∧ k < (ts.length:Int)) (.need (Int.toNat k < List.length ts) (.need ((0:Int) ≤ k ∧ k < (ps.length:Int)) (.need (Int.toNat k < List.length ps) (.need (hOk (List.getD hs (Int.toNat k) ([],[],(0:Int)))) (.need ((0:Int) ≤ k ∧ k < (hs.length:Int)) (.need (Int.toNat k < List.length hs) (.need ((0:Int) ≤ k ∧ k < (ts.length:Int)) (.need (Int.toNat k < List.length ts) (.need ((0:Int) ≤ k ∧ k < (ps.length:Int)) (.need (Int.toNat k < List.length ps) (.need (hOk (List.getD hs (Int.toNat k) ([],[],(0:Int)))) (.need (cutsS (List.getD hs (Int.toNat k) ([],[],(0:Int))) (List.getD ts (Int.toNat k) (0:Int)) (List.getD ps (Int.toNat k) (0:Int)) = rcutsS (List.getD hs (Int.toNat k) ([],[],(0:Int))) (List.getD ts (Int.toNat k) (0:Int)) (List.getD ps (Int.toNat k) (0:Int)) ∧ (↑(List.length (cutsS (List.getD hs (Int.toNat k) ([],[],(0:Int))) (List.getD ts (Int.toNat k) (0:Int)) (List.getD ps (Int.toNat k) (0:Int)))):Int) < (2:Int) ^ (62:Nat) ∧ ∀ (y:List Int),y ∈ cutsS (List.getD hs (Int.toNat k) ([],[],(0:Int))) (List.getD ts (Int.toNat k) (0:Int)) (List.getD ps (Int.toNat k) (0:Int)) → (y.length:Int) < (2:Int) ^ (62:Nat)) (.cond false (.leaf (Sum.inr (Exit.ret,Lay.st L_BCuts0_0 noU (false,())))) (.leaf (Sum.inl (hs,ts,ps,IntKind.i64.wrap (k + (1:Int)),()))))))))))))))))))))))))))))))))))) (.leaf (Sum.inr (Exit.exit (0:Nat),Lay.st L_BCuts0_1 noU ()))):=by kernel_rfl
def inv_BCuts0:List (List (Int × V) × (List (List Int) × Int)) × List Int × List Int × Int × Unit → Prop:=fun (hs,ts,ps,k,()) => 0 ≤ k ∧ k ≤ 2 ∧ hs.length = 2 ∧ ts.length = 2 ∧ ps.length = 2 ∧ ∀ x ∈ hs,hOk x
def O_BCuts0:List (List (Int × V) × (List (List Int) × Int)) × List Int × List Int × Int × Unit → Tree (Exit × St):=fun (hs,ts,ps,k,()) => (.leaf (.exit 0,L_BCuts0_1.st noU ()))
def R_BCuts0:LRun:=runOf 108 L_BCuts0 (fun x => x) (inv_BCuts0) (O_BCuts0)
theorem K_BCuts0:LoopOk P [] 108 none noU C_BCuts0 (R_BCuts0):=by
  refine loop_of hm (cx:=[c_Lapse.gc,c_rLapse.gc,c_Cuts.gc,c_rCuts.gc,c_SameMoves.gc]) [] (xl:=X_BCuts0) (α:=List (List (Int × V) × (List (List Int) × Int)) × List Int × List Int × Int × Unit) (fun x => x) (fun (hs,ts,ps,k,()) => (2 - k).toNat) (fun _ => rfl) (by kernel_rfl) (by kernel_rfl) ?_ (by kernel_rfl) trivial ?_
  · intro e S L' h
    unfold X_BCuts0 at h
    split at h <;> first | (cases h; done) | (cases h; kernel_rfl) | (rcases bif_some h with h | h <;> cases h <;> kernel_rfl)
  · rintro ⟨hs,ts,ps,k,⟨⟩⟩ hinv Q hQ
    refine hold_of_eq (B_BCuts0 hs ts ps k) ?_
    obtain ⟨h0,h1,h2,h3,h6,h4⟩:=hinv
    rw [W_id (n:=k + 1) (by omega) (by omega)]
    refine ⟨fun c1 => ?_,fun c1 => hQ⟩
    have c1:=of_decide_eq_true c1
    have a1:0 ≤ k ∧ k < (hs.length:Int):=by omega
    have a2:k.toNat < hs.length:=by omega
    have b1:0 ≤ k ∧ k < (ts.length:Int):=by omega
    have b2:k.toNat < ts.length:=by omega
    have p1:0 ≤ k ∧ k < (ps.length:Int):=by omega
    have p2:k.toNat < ps.length:=by omega
    have hk:hOk (hs.getD k.toNat ([],[],0)):=h4 _ (getD_mem (by omega))
    obtain ⟨l1,l2⟩:=cutsS_len (hs.getD k.toNat ([],[],0)) (ts.getD k.toNat 0) (ps.getD k.toNat 0)
    have e1:∀ z:Int,(z != z) = false:=fun z => by simp
    have e2:∀ z:Bool,(z == z) = true:=fun z => by simp
    rw [e1,e2]
    exact ⟨a1,a2,b1,b2,p1,p2,hk,a1,a2,b1,b2,p1,p2,hk,fun h => (by cases h),fun _ => ⟨fun h => (by cases h),fun _ => ⟨a1,a2,b1,b2,p1,p2,hk,a1,a2,b1,b2,p1,p2,hk,⟨cuts_same _ _ _,l1,l2⟩,fun h => (by cases h),fun _ => ⟨⟨⟨by omega,by omega,h2,h3,h6,h4⟩,by show (2 - (k + 1)).toNat < (2 - k).toNat; omega⟩,hQ⟩⟩⟩⟩
theorem T_BarrierCuts (h_0:List (Int × V)) (h_1:List (List Int)) (h_2 tick press:Int) (nums:List Int):fnTree (P:=P) [c_BigHouse.gc,c_awake.gc,c_NewRing.gc,c_HouseOf.gc,c_Mod64.gc] (lpOf [(0,R_BCuts0)]) Tryz.f8 (encL 0 [.agg (.pair (.sl (.pair tI tV)) (.pair (.sl tIs) tI)),.val tI,.val tI,.val tIs] ((h_0,(h_1,h_2)),tick,press,nums,())) =
  Tree.cond (bigH (h_0,h_1,h_2)) (.leaf (SV.bool true)) (.need ((0:Int) ≤ (0:Int) ∧ (0:Int) ≤ (500000000:Int)) (.need ((0:Int) < (120:Int) ∧ R64 (120:Int)) (.need ((0:Int) < (1600:Int) ∧ R64 (1600:Int)) (.need (inv_BCuts0 ([(h_0,h_1,h_2),houK nums (0:Int)],[tick,tick % (120:Int)],[press,press % (1600:Int)],(0:Int),())) (.leaf (SV.bool true)))))):=by kernel_rfl
def c_BarrierCuts:PC P:=PC.of (α:=(List (Int × V) × (List (List Int) × Int)) × Int × Int × List Int × Unit) 8 [.agg (.pair (.sl (.pair tI tV)) (.pair (.sl tIs) tI)),.val tI,.val tI,.val tIs] (fun x => x) (fun x => x) (fun _ => rfl)
  (fun _ => none)
  (fun x => .bool true) (by kernel_rfl) (by
    rintro ⟨⟨h_0,⟨h_1,h_2⟩⟩,tick,press,nums,⟨⟩⟩ hp
    refine fn_of hm (by kernel_rfl) (by kernel_rfl) (T_BarrierCuts h_0 h_1 h_2 tick press nums) ⟨K_BCuts0,trivial⟩ ?_
    try dsimp only at hp
    try dsimp only
    refine ⟨fun _ => rfl,fun d => ⟨⟨by decide,by decide⟩,⟨by decide,by decide,by decide⟩,⟨by decide,by decide,by decide⟩,⟨by decide,by decide,rfl,rfl,rfl,?_⟩,rfl⟩⟩
    intro w hw
    rcases List.mem_cons.1 hw with rfl | hw
    · exact bigH_ok d
    · rw [List.mem_singleton.1 hw]; exact houK_hOk nums (by decide))
end
end Go.MB
