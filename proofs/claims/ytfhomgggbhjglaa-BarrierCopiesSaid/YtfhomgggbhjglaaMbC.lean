/- What stands, and the proof of the rule: the program's. -/
import Derived.Test.YtfhomgggbhjglaaMbB
namespace Go.MB
open Go Go.Sx Go.Proofs
set_option linter.unusedVariables false
set_option linter.unusedSimpArgs false
noncomputable section
theorem orN (a b:Nat) (ha:a < 18446744073709551616) (hb:b < 18446744073709551616):bits .or .u64 (a:Int) (b:Int) = ((a ||| b:Nat):Int):=bits_or_u64_nat a b ha hb
theorem andN (a b:Nat) (ha:a < 18446744073709551616) (hb:b < 18446744073709551616):bits .and .u64 (a:Int) (b:Int) = ((a &&& b:Nat):Int):=bits_and_u64_nat a b ha hb
theorem shl1 {i:Int} (h0:0 ≤ i) (h1:i < 64):shlI .u64 1 i = ((1 <<< i.toNat:Nat):Int):=by
  show IntKind.wrap .u64 (1 * 2 ^ min i.toNat 64) = _
  rw [IntKind.wrap_u64,Int.one_mul,show min i.toNat 64 = i.toNat by omega,Nat.one_shiftLeft]
  have h:(2:Nat) ^ i.toNat < 18446744073709551616:=Nat.lt_of_lt_of_le (Nat.pow_lt_pow_right (by decide) (show i.toNat < 64 by omega)) (by decide)
  have e:((2:Int) ^ i.toNat) = ((2 ^ i.toNat:Nat):Int):=by simp
  rw [e]
  generalize (2:Nat) ^ i.toNat = z at *
  omega
theorem or_lt {a b n:Nat} (ha:a < 2 ^ n) (hb:b < 2 ^ n):a ||| b < 2 ^ n:=Nat.or_lt_two_pow ha hb
theorem one_lt {i:Int} {n:Nat} (h0:0 ≤ i) (h1:i < n):1 <<< i.toNat < 2 ^ n:=by
  rw [Nat.one_shiftLeft]
  exact Nat.pow_lt_pow_right (by decide) (by omega)
theorem ofN_step {l:List Int} {i:Int} {s:Nat} (h0:0 ≤ i) (h:i < l.length):ofN (l.drop i.toNat) s = ofN (l.drop (i + 1).toNat) (s ||| 1 <<< (l.getD i.toNat 0).toNat):=by
  rw [drop_step (0:Int) h0 h,ofN]
def idxOk (n:Int) (l:List Int):Prop:=l.length ≤ 1000 ∧ ∀ i ∈ l,0 ≤ i ∧ i < n
def L_of0:Lay:={ slots:=[(3,.val (.int .u64)),(6,.val tIs),(7,.val tI),(8,.val tI)] }
def L_of0_0:Lay:={ slots:=[(3,.val (.int .u64))] }
def X_of0:Exit → St → Option Lay
  | .exit 0,_ => some L_of0_0
  | _,_ => none
abbrev C_of0:Code:=loopC (bodyOf Try.f77) 0
theorem B_of0 (s:Int) (m:List Int) (n i:Int):loopBodyA (P:=P) [] (lpOf []) [] 18 noU (inner C_of0) L_of0 X_of0 (α:=Int × List Int × Int × Int × Unit) (fun x => x) (fun x => x) (s,m,n,i,()) =
  Tree.cond (decide (i < n)) (.need ((0:Int) ≤ i ∧ i < (m.length:Int)) (.need ((0:Int) ≤ List.getD m (Int.toNat i) (0:Int)) (.leaf (Sum.inl (bits BinOp.or IntKind.u64 s (shlI IntKind.u64 (1:Int) (List.getD m (Int.toNat i) (0:Int))),m,n,IntKind.i64.wrap (i + (1:Int)),()))))) (.leaf (Sum.inr (Exit.exit (0:Nat),Lay.st L_of0_0 noU (s,())))):=by kernel_rfl
def inv_of0:Int × List Int × Int × Int × Unit → Prop:=fun (s,m,n,i,()) => n = m.length ∧ 0 ≤ i ∧ i ≤ n ∧ idxOk 10 m ∧ 0 ≤ s ∧ s < 1024
def O_of0:Int × List Int × Int × Int × Unit → Tree (Exit × St):=fun (s,m,n,i,()) => (.leaf (.exit 0,L_of0_0.st noU (((ofN (m.drop i.toNat) s.toNat:Int)),())))
def R_of0:LRun:=runOf 18 L_of0 (fun x => x) (inv_of0) (O_of0)
theorem K_of0:LoopOk P [] 18 none noU C_of0 (R_of0):=by
  refine loop_of hm (cx:=[]) [] (xl:=X_of0) (α:=Int × List Int × Int × Int × Unit) (fun x => x) (fun (s,m,n,i,()) => (n - i).toNat) (fun _ => rfl) (by kernel_rfl) (by kernel_rfl) ?_ (by kernel_rfl) trivial ?_
  · intro e S L' h
    unfold X_of0 at h
    split at h <;> first | (cases h; done) | (cases h; kernel_rfl) | (rcases bif_some h with h | h <;> cases h <;> kernel_rfl)
  · rintro ⟨s,m,n,i,⟨⟩⟩ hinv Q hQ
    refine hold_of_eq (B_of0 s m n i) ?_
    obtain ⟨rfl,h0,h1,⟨h2,h3⟩,h4,h5⟩:=hinv
    rw [W_id (n:=i + 1) (by omega) (by omega)]
    unfold O_of0 at hQ
    dsimp only at hQ
    obtain ⟨S,rfl⟩:=Int.eq_ofNat_of_zero_le h4
    simp only [Int.toNat_natCast] at hQ
    refine ⟨fun c1 => ?_,fun c1 => ?_⟩
    · have c1:=of_decide_eq_true c1
      have hy:=h3 _ (getD_mem (d:=(0:Int)) (show i.toNat < m.length by omega))
      rw [ofN_step h0 c1] at hQ
      generalize m.getD i.toNat 0 = y at *
      have b1:=one_lt (n:=10) hy.1 (by omega)
      have b2:=or_lt (n:=10) (a:=S) (by omega) b1
      rw [shl1 hy.1 (by omega),orN _ _ (by omega) (by omega)]
      exact ⟨⟨h0,c1⟩,hy.1,⟨⟨rfl,by omega,by omega,⟨h2,h3⟩,by omega,by omega⟩,by show ((m.length:Int) - (i + 1)).toNat < ((m.length:Int) - i).toNat; omega⟩,hQ⟩
    · rw [drop_end (of_decide_eq_false c1)] at hQ
      exact hQ
theorem T_of (l:List Int):fnTree (P:=P) [] (lpOf [(0,R_of0)]) Try.f77 (encL 0 [.val tIs] (l,())) =
  Tree.need (inv_of0 ((0:Int),l,(l.length:Int),(0:Int),())) (.leaf (SV.int IntKind.u64 (↑(ofN (List.drop (Int.toNat (0:Int)) l) (Int.toNat (0:Int))):Int))):=by kernel_rfl
def c_of:PC P:=PC.of (α:=List Int × Unit) 77 [.val tIs] (fun x => x) (fun x => x) (fun _ => rfl)
  (fun x => some (idxOk 10 x.1))
  (fun x => .int .u64 (ofN x.1 0:Int)) (by kernel_rfl) (by
    rintro ⟨l,⟨⟩⟩ hp
    refine fn_of hm (by kernel_rfl) (by kernel_rfl) (T_of l) ⟨K_of0,trivial⟩ ?_
    try dsimp only at hp
    try dsimp only
    have hp' : idxOk 10 l:=hp
    exact ⟨⟨rfl,by decide,by omega,hp',by decide,by decide⟩,rfl⟩)
theorem T_eff (e_0 e_1 e_2 e_3 tick press:Int):fnTree (P:=P) [c_within.gc] (lpOf []) Try.f60 (encL 0 [.agg (.pair tI tV),.val tI,.val tI] ((e_0,(e_1,(e_2,e_3))),tick,press,())) =
  Tree.cond (e_0 == (2:Int)) (.cond (wi tick e_2 e_3) (.leaf (SV.bool (decide (e_1 ≥ press)))) (.leaf (SV.bool false))) (.leaf (SV.bool false)):=by kernel_rfl
def c_eff:PC P:=PC.of (α:=(Int × V) × Int × Int × Unit) 60 [.agg (.pair tI tV),.val tI,.val tI] (fun x => x) (fun x => x) (fun _ => rfl)
  (fun _ => none)
  (fun x => .bool (effS x.1 x.2.1 x.2.2.1)) (by kernel_rfl) (by
    rintro ⟨⟨e_0,⟨e_1,⟨e_2,e_3⟩⟩⟩,tick,press,⟨⟩⟩ hp
    refine fn_of hm (by kernel_rfl) (by kernel_rfl) (T_eff e_0 e_1 e_2 e_3 tick press) trivial ?_
    try dsimp only at hp
    try dsimp only
    show Tree.holds (fun s => s = SV.bool (effS (e_0,e_1,e_2,e_3) tick press)) _
    unfold effS
    dsimp only
    refine ⟨fun c1 => ⟨fun c2 => ?_,fun c2 => ?_⟩,fun c1 => ?_⟩
    · rw [decide_eq_true (show e_0 = 2 by simpa using c1),c2]; exact rfl
    · rw [decide_eq_true (show e_0 = 2 by simpa using c1),c2]; exact rfl
    · rw [decide_eq_false (show ¬ e_0 = 2 by simpa using c1)]; exact rfl)
theorem worksN_step {tick press:Int} {l:List E4} {i:Int} {s:Nat} (h0:0 ≤ i) (h:i < l.length):worksN tick press (l.drop i.toNat) i.toNat s = worksN tick press (l.drop (i + 1).toNat) (i + 1).toNat (if effS (l.getD i.toNat (0,0,0,0)) tick press = true then s ||| 1 <<< i.toNat else s):=by
  rw [drop_step ((0,0,0,0):E4) h0 h,worksN,show (i + 1).toNat = i.toNat + 1 by omega]
theorem standN_step {s:Nat} {l:List (List Int)} {i:Int} (h0:0 ≤ i) (h:i < l.length):standN s (l.drop i.toNat) i = if ofN (l.getD i.toNat []) 0 &&& s = ofN (l.getD i.toNat []) 0 then i :: standN s (l.drop (i + 1).toNat) (i + 1) else standN s (l.drop (i + 1).toNat) (i + 1):=by
  rw [drop_step ([] : List Int) h0 h,standN]
def L_works0:Lay:={ slots:=[(1,.val tI),(2,.val tI),(7,.val (.int .u64)),(11,.val (.sl (.pair tI tV))),(12,.val tI),(13,.val tI)] }
def L_works0_0:Lay:={ slots:=[(7,.val (.int .u64))] }
def X_works0:Exit → St → Option Lay
  | .exit 0,_ => some L_works0_0
  | _,_ => none
abbrev C_works0:Code:=loopC (bodyOf Try.f53) 0
theorem B_works0 (tick press s:Int) (l:List (Int × V)) (n i:Int):loopBodyA (P:=P) [c_eff.gc] (lpOf []) [] 28 noU (inner C_works0) L_works0 X_works0 (α:=Int × Int × Int × List (Int × V) × Int × Int × Unit) (fun x => x) (fun x => x) (tick,press,s,l,n,i,()) =
  Tree.cond (decide (i < n)) (.need ((0:Int) ≤ i ∧ i < (l.length:Int)) (.cond (effS (List.getD l (Int.toNat i) (0,0,0,0)) tick press) (.need ((0:Int) ≤ i) (.leaf (Sum.inl (tick,press,bits BinOp.or IntKind.u64 s (shlI IntKind.u64 (1:Int) i),l,n,IntKind.i64.wrap (i + (1:Int)),())))) (.leaf (Sum.inl (tick,press,s,l,n,IntKind.i64.wrap (i + (1:Int)),()))))) (.leaf (Sum.inr (Exit.exit (0:Nat),Lay.st L_works0_0 noU (s,())))):=by kernel_rfl
def inv_works0:Int × Int × Int × List (Int × V) × Int × Int × Unit → Prop:=fun (tick,press,s,l,n,i,()) => n = l.length ∧ 0 ≤ i ∧ i ≤ n ∧ l.length ≤ 10 ∧ 0 ≤ s ∧ s < 1024
def O_works0:Int × Int × Int × List (Int × V) × Int × Int × Unit → Tree (Exit × St):=fun (tick,press,s,l,n,i,()) => (.leaf (.exit 0,L_works0_0.st noU (((worksN tick press (l.drop i.toNat) i.toNat s.toNat:Int)),())))
def R_works0:LRun:=runOf 28 L_works0 (fun x => x) (inv_works0) (O_works0)
theorem K_works0:LoopOk P [] 28 none noU C_works0 (R_works0):=by
  refine loop_of hm (cx:=[c_eff.gc]) [] (xl:=X_works0) (α:=Int × Int × Int × List (Int × V) × Int × Int × Unit) (fun x => x) (fun (tick,press,s,l,n,i,()) => (n - i).toNat) (fun _ => rfl) (by kernel_rfl) (by kernel_rfl) ?_ (by kernel_rfl) trivial ?_
  · intro e S L' h
    unfold X_works0 at h
    split at h <;> first | (cases h; done) | (cases h; kernel_rfl) | (rcases bif_some h with h | h <;> cases h <;> kernel_rfl)
  · rintro ⟨tick,press,s,l,n,i,⟨⟩⟩ hinv Q hQ
    refine hold_of_eq (B_works0 tick press s l n i) ?_
    obtain ⟨rfl,h0,h1,h2,h4,h5⟩:=hinv
    rw [W_id (n:=i + 1) (by omega) (by omega)]
    unfold O_works0 at hQ
    dsimp only at hQ
    obtain ⟨S,rfl⟩:=Int.eq_ofNat_of_zero_le h4
    simp only [Int.toNat_natCast] at hQ
    refine ⟨fun c1 => ?_,fun c1 => ?_⟩
    · have c1:=of_decide_eq_true c1
      have mm:((l.length:Int) - (i + 1)).toNat < ((l.length:Int) - i).toNat:=by omega
      rw [worksN_step h0 c1] at hQ
      refine ⟨⟨h0,c1⟩,fun c2 => ⟨h0,?_⟩,fun c2 => ?_⟩
      · have c2:effS (l.getD i.toNat (0,0,0,0)) tick press = true:=c2
        rw [if_pos c2] at hQ
        have b1:=one_lt (n:=10) h0 (by omega)
        have b2:=or_lt (n:=10) (a:=S) (by omega) b1
        rw [shl1 h0 (by omega),orN _ _ (by omega) (by omega)]
        exact ⟨⟨⟨rfl,by omega,by omega,h2,by omega,by omega⟩,mm⟩,hQ⟩
      · have c2:effS (l.getD i.toNat (0,0,0,0)) tick press = false:=c2
        rw [if_neg (by rw [c2]; simp)] at hQ
        exact ⟨⟨⟨rfl,by omega,by omega,h2,by omega,by omega⟩,mm⟩,hQ⟩
    · rw [drop_end (of_decide_eq_false c1)] at hQ
      exact hQ
theorem T_works (s0_0:List (Int × V)) (s0_1:List (List Int)) (s0_2 tick press:Int):fnTree (P:=P) [] (lpOf [(0,R_works0)]) Try.f53 (encL 0 [.agg (.pair (.sl (.pair tI tV)) (.pair (.sl tIs) tI)),.val tI,.val tI] ((s0_0,(s0_1,s0_2)),tick,press,())) =
  Tree.need (inv_works0 (tick,press,(0:Int),s0_0,(s0_0.length:Int),(0:Int),())) (.leaf (SV.int IntKind.u64 (↑(worksN tick press (List.drop (Int.toNat (0:Int)) s0_0) (Int.toNat (0:Int)) (Int.toNat (0:Int))):Int))):=by kernel_rfl
def c_works:PC P:=PC.of (α:=(List (Int × V) × (List (List Int) × Int)) × Int × Int × Unit) 53 [.agg (.pair (.sl (.pair tI tV)) (.pair (.sl tIs) tI)),.val tI,.val tI] (fun x => x) (fun x => x) (fun _ => rfl)
  (fun x => some (x.1.1.length ≤ 10))
  (fun x => .int .u64 (worksN x.2.1 x.2.2.1 x.1.1 0 0:Int)) (by kernel_rfl) (by
    rintro ⟨⟨s0_0,⟨s0_1,s0_2⟩⟩,tick,press,⟨⟩⟩ hp
    refine fn_of hm (by kernel_rfl) (by kernel_rfl) (T_works s0_0 s0_1 s0_2 tick press) ⟨K_works0,trivial⟩ ?_
    try dsimp only at hp
    try dsimp only
    have hp' : s0_0.length ≤ 10:=hp
    exact ⟨⟨rfl,by decide,by omega,hp',by decide,by decide⟩,rfl⟩)
def L_stnd0:Lay:={ slots:=[(1,.val (.int .u64)),(5,.row 3 tI),(10,.val (.sl tIs)),(11,.val tI),(12,.val tI)] }
def L_stnd0_0:Lay:={ slots:=[(5,.row 3 tI)] }
def X_stnd0:Exit → St → Option Lay
  | .exit 0,_ => some L_stnd0_0
  | _,_ => none
abbrev C_stnd0:Code:=loopC (bodyOf Try.f62) 0
theorem B_stnd0 (s:Int) (out:List Int) (l:List (List Int)) (n i:Int):loopBodyA (P:=P) [c_of.gc] (lpOf []) [] 30 noU (inner C_stnd0) L_stnd0 X_stnd0 (α:=Int × List Int × List (List Int) × Int × Int × Unit) (fun x => x) (fun x => x) (s,out,l,n,i,()) =
  Tree.cond (decide (i < n)) (.need ((0:Int) ≤ i ∧ i < (l.length:Int)) (.need (idxOk (10:Int) (List.getD l (Int.toNat i) [])) (.cond (bits BinOp.and IntKind.u64 (↑(ofN (List.getD l (Int.toNat i) []) (0:Nat)):Int) s == (↑(ofN (List.getD l (Int.toNat i) []) (0:Nat)):Int)) (.need ((List.length out + List.length [i]) * (8:Nat) ≤ (140737488355328:Nat)) (.leaf (Sum.inl (s,out ++ [i],l,n,IntKind.i64.wrap (i + (1:Int)),())))) (.leaf (Sum.inl (s,out,l,n,IntKind.i64.wrap (i + (1:Int)),())))))) (.leaf (Sum.inr (Exit.exit (0:Nat),Lay.st L_stnd0_0 noU (out,())))):=by kernel_rfl
def inv_stnd0:Int × List Int × List (List Int) × Int × Int × Unit → Prop:=fun (s,out,l,n,i,()) => n = l.length ∧ 0 ≤ i ∧ i ≤ n ∧ l.length ≤ 1000 ∧ (∀ q ∈ l,idxOk 10 q) ∧ (out.length:Int) ≤ i ∧ 0 ≤ s ∧ s < 1024
def O_stnd0:Int × List Int × List (List Int) × Int × Int × Unit → Tree (Exit × St):=fun (s,out,l,n,i,()) => (.leaf (.exit 0,L_stnd0_0.st noU ((out ++ standN s.toNat (l.drop i.toNat) i),())))
def R_stnd0:LRun:=runOf 30 L_stnd0 (fun x => x) (inv_stnd0) (O_stnd0)
theorem K_stnd0:LoopOk P [] 30 none noU C_stnd0 (R_stnd0):=by
  refine loop_of hm (cx:=[c_of.gc]) [] (xl:=X_stnd0) (α:=Int × List Int × List (List Int) × Int × Int × Unit) (fun x => x) (fun (s,out,l,n,i,()) => (n - i).toNat) (fun _ => rfl) (by kernel_rfl) (by kernel_rfl) ?_ (by kernel_rfl) trivial ?_
  · intro e S L' h
    unfold X_stnd0 at h
    split at h <;> first | (cases h; done) | (cases h; kernel_rfl) | (rcases bif_some h with h | h <;> cases h <;> kernel_rfl)
  · rintro ⟨s,out,l,n,i,⟨⟩⟩ hinv Q hQ
    refine hold_of_eq (B_stnd0 s out l n i) ?_
    obtain ⟨rfl,h0,h1,h2,h3,h4,h5,h6⟩:=hinv
    rw [W_id (n:=i + 1) (by omega) (by omega)]
    unfold O_stnd0 at hQ
    dsimp only at hQ
    obtain ⟨S,rfl⟩:=Int.eq_ofNat_of_zero_le h5
    simp only [Int.toNat_natCast] at hQ
    refine ⟨fun c1 => ?_,fun c1 => ?_⟩
    · have c1:=of_decide_eq_true c1
      have mm:((l.length:Int) - (i + 1)).toNat < ((l.length:Int) - i).toNat:=by omega
      have hy:=h3 _ (getD_mem (d:=([] : List Int)) (show i.toNat < l.length by omega))
      rw [standN_step h0 c1] at hQ
      generalize l.getD i.toNat [] = q at *
      have b1:=ofN_lt (n:=10) (s:=0) (l:=q) (by decide) (by decide) (fun i hi => (hy.2 i hi).2)
      rw [andN _ _ (by omega) (by omega)]
      refine ⟨⟨h0,c1⟩,hy,fun c2 => ⟨by simp only [List.length_cons,List.length_nil]; omega,?_⟩,fun c2 => ?_⟩
      · have c2:ofN q 0 &&& S = ofN q 0:=by
          have:((ofN q 0 &&& S:Nat):Int) = (ofN q 0:Int):=by simpa using c2
          omega
        rw [if_pos c2,List.append_cons] at hQ
        exact ⟨⟨⟨rfl,by omega,by omega,h2,h3,by simp only [List.length_append,List.length_cons,List.length_nil]; omega,by omega,by omega⟩,mm⟩,hQ⟩
      · have c2:¬ ofN q 0 &&& S = ofN q 0:=by
          have:¬ ((ofN q 0 &&& S:Nat):Int) = (ofN q 0:Int):=by simpa using c2
          omega
        rw [if_neg c2] at hQ
        exact ⟨⟨⟨rfl,by omega,by omega,h2,h3,by omega,by omega,by omega⟩,mm⟩,hQ⟩
    · rw [drop_end (of_decide_eq_false c1),standN,List.append_nil] at hQ
      exact hQ
theorem T_standing (s0_0:List (Int × V)) (s0_1:List (List Int)) (s0_2 s:Int):fnTree (P:=P) [] (lpOf [(0,R_stnd0)]) Try.f62 (encL 0 [.agg (.pair (.sl (.pair tI tV)) (.pair (.sl tIs) tI)),.val (.int .u64)] ((s0_0,(s0_1,s0_2)),s,())) =
  Tree.need (inv_stnd0 (s,[],s0_1,(s0_1.length:Int),(0:Int),())) (.leaf (SV.sl (Ty.int IntKind.i64) (standN (Int.toNat s) (List.drop (Int.toNat (0:Int)) s0_1) (0:Int)))):=by kernel_rfl
def c_standing:PC P:=PC.of (α:=(List (Int × V) × (List (List Int) × Int)) × Int × Unit) 62 [.agg (.pair (.sl (.pair tI tV)) (.pair (.sl tIs) tI)),.val (.int .u64)] (fun x => x) (fun x => x) (fun _ => rfl)
  (fun x => some (x.1.2.1.length ≤ 1000 ∧ (∀ q ∈ x.1.2.1,idxOk 10 q) ∧ 0 ≤ x.2.1 ∧ x.2.1 < 1024))
  (fun x => .sl tI (standN x.2.1.toNat x.1.2.1 0)) (by kernel_rfl) (by
    rintro ⟨⟨s0_0,⟨s0_1,s0_2⟩⟩,s,⟨⟩⟩ hp
    refine fn_le hm (by kernel_rfl) (by kernel_rfl) (T_standing s0_0 s0_1 s0_2 s) ⟨K_stnd0,trivial⟩ (by kernel_rfl) ?_
    try dsimp only at hp
    try dsimp only
    obtain ⟨p1,p2,p3,p4⟩ : s0_1.length ≤ 1000 ∧ (∀ q ∈ s0_1,idxOk 10 q) ∧ 0 ≤ s ∧ s < 1024:=hp
    exact ⟨⟨rfl,by decide,by omega,p1,p2,by decide,p3,p4⟩,rfl⟩)
def srS (envs:List (List Int)) (up:List Int) (k u:Int) (now:List Int) (need:Int):Option (List Int):=prfU envs (up.drop k.toNat) u.toNat now (need - now.length).toNat
def srOk (u:Int) (now:List Int) (envs:List (List Int)) (need:Int) (up:List Int):Prop :=
  (0 ≤ u ∧ u < 1024) ∧ ((now.length:Int) ≤ need ∧ need ≤ 3) ∧ up.length ≤ 1000 ∧ (∀ i ∈ up,0 ≤ i ∧ i < envs.length) ∧ ∀ l ∈ envs,idxOk 10 l
theorem prfU_zero (envs:List (List Int)) (l:List Int) (u:Nat) (so:List Int):prfU envs l u so 0 = some so:=by cases l <;> rfl
theorem prfU_len {envs:List (List Int)}:∀ {l:List Int} {u:Nat} {so:List Int} {n:Nat} {x:List Int},prfU envs l u so n = some x → x.length = so.length + n
  | l,u,so,0,x,h => by rw [prfU_zero] at h; cases h; rfl
  | [],u,so,n + 1,x,h => by cases h
  | k :: r,u,so,n + 1,x,h => by
    rw [prfU] at h
    split at h
    · exact prfU_len h
    · split at h
      · rename_i y hy
        cases h
        have:=prfU_len hy
        rw [List.length_append,List.length_singleton] at this
        omega
      · exact prfU_len h
def orS {α:Type}:Option α → Option α → Option α
  | some x,_ => some x
  | none,y => y
theorem srS_step {envs:List (List Int)} {up:List Int} {k u:Int} {now:List Int} {need:Int} (h0:0 ≤ k) (h:k < up.length) (hn:(now.length:Int) < need) :
    srS envs up k u now need = if ofN (envAt envs (up.getD k.toNat 0)) 0 &&& u.toNat ≠ 0 then srS envs up (k + 1) u now need
      else orS (srS envs up (k + 1) ((u.toNat ||| ofN (envAt envs (up.getD k.toNat 0)) 0:Nat):Int) (now ++ [up.getD k.toNat 0]) need) (srS envs up (k + 1) u now need):=by
  unfold srS
  obtain ⟨m,hm⟩ : ∃ m:Nat,(need - now.length).toNat = m + 1:=⟨(need - now.length).toNat - 1,by omega⟩
  have e:∀ y:Int,(need - ((now ++ [y]).length:Nat)).toNat = m:=fun y => by rw [List.length_append,List.length_singleton]; omega
  rw [drop_step (0:Int) h0 h,hm,prfU,e,Int.toNat_natCast]
  cases prfU envs (List.drop (k + 1).toNat up) (u.toNat ||| ofN (envAt envs (up.getD k.toNat 0)) 0) (now ++ [up.getD k.toNat 0]) m <;> rfl
theorem srS_zero {envs:List (List Int)} {up:List Int} {k u:Int} {now:List Int} {need:Int} (hn:(now.length:Int) = need):srS envs up k u now need = some now:=by
  unfold srS
  rw [show (need - now.length).toNat = 0 by omega,prfU_zero]
theorem srS_end {envs:List (List Int)} {up:List Int} {k u:Int} {now:List Int} {need:Int} (h:¬ k < up.length) (hn:(now.length:Int) < need):srS envs up k u now need = none:=by
  unfold srS
  obtain ⟨m,hm⟩ : ∃ m:Nat,(need - now.length).toNat = m + 1:=⟨(need - now.length).toNat - 1,by omega⟩
  rw [drop_end h,hm,prfU]
def L_srch:Lay:={ slots:=[(0,.val tI),(1,.val (.int .u64)),(2,.ptr 1 0),(3,.ptr 2 0),(4,.ptr 3 0),(5,.ptr 4 0)],boxes:=[(1,[.row 3 tI]),(2,[.val tEls,.val tIss,.val tI]),(3,[.val tIs]),(4,[.clo 76 [(1,0),(2,0),(3,0),(4,0)]])],rb:=2000000 }
def pre_srch:Int × Int × Unit × Unit × Unit × Unit × List Int × List E4 × List (List Int) × Int × List Int × Unit × Unit → Prop:=fun (k,u,_,_,_,_,now,els,envs,need,up,_) => srOk u now envs need up ∧ 0 ≤ k ∧ k ≤ up.length
def mu_srch:Int × Int × Unit × Unit × Unit × Unit × List Int × List E4 × List (List Int) × Int × List Int × Unit × Unit → Nat:=fun (k,u,_,_,_,_,now,els,envs,need,up,_) => (up.length - k).toNat
def out_srch:Int × Int × Unit × Unit × Unit × Unit × List Int × List E4 × List (List Int) × Int × List Int × Unit × Unit → MOut:=fun (k,u,_,_,_,_,now,els,envs,need,up,_) => ⟨.bool (srS envs up k u now need).isSome,[[.own 100],[.sl tEl els,.sl tIs envs,.int .i64 need],[.sl tI up],[.fn 76 [.ptr 1 0,.ptr 2 0,.ptr 3 0,.ptr 4 0]]],[.row 3 tI ((srS envs up k u now need).getD now)]⟩
def H_srch (n:Nat):Prop:=∀ a:Int × Int × Unit × Unit × Unit × Unit × List Int × List E4 × List (List Int) × Int × List Int × Unit × Unit,ndP (some (pre_srch a ∧ mu_srch a < n)) → MFnOk P 76 L_srch ((fun x => x) a) (out_srch a)
def r_srch (n:Nat) (hok:H_srch n):MC P:=MC.of (α:=Int × Int × Unit × Unit × Unit × Unit × List Int × List E4 × List (List Int) × Int × List Int × Unit × Unit) 76 L_srch (fun x => x) (fun x => x) (fun _ => rfl) (fun a => some (pre_srch a ∧ mu_srch a < n)) out_srch (by kernel_rfl) (by kernel_rfl) (by kernel_rfl) hok
def L_srchL:Lay:={ slots:=[(1,.val (.int .u64)),(2,.ptr 1 0),(3,.ptr 2 0),(4,.ptr 3 0),(5,.ptr 4 0),(9,.val tI)],boxes:=[(1,[.row 3 tI]),(2,[.val tEls,.val tIss,.val tI]),(3,[.val tIs]),(4,[.clo 76 [(1,0),(2,0),(3,0),(4,0)]])] }
def L_srchL_0:Lay:={ slots:=[(8,.val .bool)],boxes:=[(1,[.row 3 tI]),(2,[.val tEls,.val tIss,.val tI]),(3,[.val tIs]),(4,[.clo 76 [(1,0),(2,0),(3,0),(4,0)]])] }
def L_srchL_1:Lay:={ slots:=[],boxes:=[(1,[.row 3 tI]),(2,[.val tEls,.val tIss,.val tI]),(3,[.val tIs]),(4,[.clo 76 [(1,0),(2,0),(3,0),(4,0)]])] }
def X_srchL:Exit → St → Option Lay
  | .ret,_ => some L_srchL_0
  | .exit 0,_ => some L_srchL_1
  | _,_ => none
abbrev C_srchL:Code:=loopC (bodyOf Try.f76) 0
theorem B_srchL (n:Nat) (hok:H_srch n) (u k:Int) (now:List Int) (els:List E4) (envs:List (List Int)) (need:Int) (up:List Int):loopBodyA (P:=P) [c_of.gc,(r_srch n hok).gc] (lpOf []) [] 55 (usd noU (L_srch.ids ++ rowIds 2000000 L_srch.shs)) (inner C_srchL) L_srchL X_srchL (α:=Int × Unit × Unit × Unit × Unit × Int × List Int × List E4 × List (List Int) × Int × List Int × Unit × Unit) (fun x => x) (fun x => x) (u,(),(),(),(),k,now,els,envs,need,up,(),()) =
  Tree.cond (decide (k < (up.length:Int))) (.need ((0:Int) ≤ k ∧ k < (up.length:Int)) (.need ((0:Int) ≤ List.getD up (Int.toNat k) (0:Int) ∧ List.getD up (Int.toNat k) (0:Int) < (envs.length:Int)) (.need (idxOk (10:Int) (List.getD envs (Int.toNat (List.getD up (Int.toNat k) (0:Int))) [])) (.cond (bits BinOp.and IntKind.u64 (↑(ofN (List.getD envs (Int.toNat (List.getD up (Int.toNat k) (0:Int))) []) (0:Nat)):Int) u != (0:Int)) (.leaf (Sum.inl (u,(),(),(),(),IntKind.i64.wrap (k + (1:Int)),now,els,envs,need,up,(),()))) (.need ((0:Int) ≤ k ∧ k < (up.length:Int)) (.need ((List.length now + List.length [List.getD up (Int.toNat k) (0:Int)]) * (8:Nat) ≤ (140737488355328:Nat)) (.need (pre_srch (IntKind.i64.wrap (k + (1:Int)),bits BinOp.or IntKind.u64 u (↑(ofN (List.getD envs (Int.toNat (List.getD up (Int.toNat k) (0:Int))) []) (0:Nat)):Int),(),(),(),(),now ++ [List.getD up (Int.toNat k) (0:Int)],els,envs,need,up,(),()) ∧ mu_srch (IntKind.i64.wrap (k + (1:Int)),bits BinOp.or IntKind.u64 u (↑(ofN (List.getD envs (Int.toNat (List.getD up (Int.toNat k) (0:Int))) []) (0:Nat)):Int),(),(),(),(),now ++ [List.getD up (Int.toNat k) (0:Int)],els,envs,need,up,(),()) < n) (.cond (Option.isSome (srS envs up (IntKind.i64.wrap (k + (1:Int))) (bits BinOp.or IntKind.u64 u (↑(ofN (List.getD envs (Int.toNat (List.getD up (Int.toNat k) (0:Int))) []) (0:Nat)):Int)) (now ++ [List.getD up (Int.toNat k) (0:Int)]) need)) (.leaf (Sum.inr (Exit.ret,Lay.st L_srchL_0 (usd noU (Lay.ids L_srch ++ rowIds (2000000:Nat) (Lay.shs L_srch))) (true,Option.getD (srS envs up (IntKind.i64.wrap (k + (1:Int))) (bits BinOp.or IntKind.u64 u (↑(ofN (List.getD envs (Int.toNat (List.getD up (Int.toNat k) (0:Int))) []) (0:Nat)):Int)) (now ++ [List.getD up (Int.toNat k) (0:Int)]) need) (now ++ [List.getD up (Int.toNat k) (0:Int)]),els,envs,need,up,(),())))) (.need ((0:Int) ≤ IntKind.i64.wrap ((↑(List.length (Option.getD (srS envs up (IntKind.i64.wrap (k + (1:Int))) (bits BinOp.or IntKind.u64 u (↑(ofN (List.getD envs (Int.toNat (List.getD up (Int.toNat k) (0:Int))) []) (0:Nat)):Int)) (now ++ [List.getD up (Int.toNat k) (0:Int)]) need) (now ++ [List.getD up (Int.toNat k) (0:Int)]))):Int) - (1:Int)) ∧ IntKind.i64.wrap ((↑(List.length (Option.getD (srS envs up (IntKind.i64.wrap (k + (1:Int))) (bits BinOp.or IntKind.u64 u (↑(ofN (List.getD envs (Int.toNat (List.getD up (Int.toNat k) (0:Int))) []) (0:Nat)):Int)) (now ++ [List.getD up (Int.toNat k) (0:Int)]) need) (now ++ [List.getD up (Int.toNat k) (0:Int)]))):Int) - (1:Int)) ≤ (↑(List.length (Option.getD (srS envs up (IntKind.i64.wrap (k + (1:Int))) (bits BinOp.or IntKind.u64 u (↑(ofN (List.getD envs (Int.toNat (List.getD up (Int.toNat k) (0:Int))) []) (0:Nat)):Int)) (now ++ [List.getD up (Int.toNat k) (0:Int)]) need) (now ++ [List.getD up (Int.toNat k) (0:Int)]))):Int)) (.leaf (Sum.inl (u,(),(),(),(),IntKind.i64.wrap (k + (1:Int)),List.take (Int.toNat (IntKind.i64.wrap ((↑(List.length (Option.getD (srS envs up (IntKind.i64.wrap (k + (1:Int))) (bits BinOp.or IntKind.u64 u (↑(ofN (List.getD envs (Int.toNat (List.getD up (Int.toNat k) (0:Int))) []) (0:Nat)):Int)) (now ++ [List.getD up (Int.toNat k) (0:Int)]) need) (now ++ [List.getD up (Int.toNat k) (0:Int)]))):Int) - (1:Int)))) (Option.getD (srS envs up (IntKind.i64.wrap (k + (1:Int))) (bits BinOp.or IntKind.u64 u (↑(ofN (List.getD envs (Int.toNat (List.getD up (Int.toNat k) (0:Int))) []) (0:Nat)):Int)) (now ++ [List.getD up (Int.toNat k) (0:Int)]) need) (now ++ [List.getD up (Int.toNat k) (0:Int)])),els,envs,need,up,(),())))))))))))) (.leaf (Sum.inr (Exit.exit (0:Nat),Lay.st L_srchL_1 (usd noU (Lay.ids L_srch ++ rowIds (2000000:Nat) (Lay.shs L_srch))) (now,els,envs,need,up,(),())))):=by kernel_rfl
def inv_srchL (n:Nat) (hok:H_srch n):Int × Unit × Unit × Unit × Unit × Int × List Int × List E4 × List (List Int) × Int × List Int × Unit × Unit → Prop:=fun (u,_,_,_,_,k,now,els,envs,need,up,_) => srOk u now envs need up ∧ 0 ≤ k ∧ k ≤ up.length ∧ (up.length - k).toNat ≤ n ∧ (now.length:Int) < need
def O_srchL (n:Nat) (hok:H_srch n):Int × Unit × Unit × Unit × Unit × Int × List Int × List E4 × List (List Int) × Int × List Int × Unit × Unit → Tree (Exit × St):=fun (u,_,_,_,_,k,now,els,envs,need,up,_) => .cond (srS envs up k u now need).isSome (.leaf (.ret,L_srchL_0.st (usd noU (L_srch.ids ++ rowIds 2000000 L_srch.shs)) (true,(srS envs up k u now need).getD now,els,envs,need,up,(),()))) (.leaf (.exit 0,L_srchL_1.st (usd noU (L_srch.ids ++ rowIds 2000000 L_srch.shs)) (now,els,envs,need,up,(),())))
def R_srchL (n:Nat) (hok:H_srch n):LRun:=runOf 55 L_srchL (fun x => x) (inv_srchL n hok) (O_srchL n hok)
theorem K_srchL (n:Nat) (hok:H_srch n):LoopOk P [] 55 none (usd noU (L_srch.ids ++ rowIds 2000000 L_srch.shs)) C_srchL (R_srchL n hok):=by
  refine loop_of hm (cx:=[c_of.gc,(r_srch n hok).gc]) [] (xl:=X_srchL) (α:=Int × Unit × Unit × Unit × Unit × Int × List Int × List E4 × List (List Int) × Int × List Int × Unit × Unit) (fun x => x) (fun (u,_,_,_,_,k,now,els,envs,need,up,_) => (up.length - k).toNat) (fun _ => rfl) (by kernel_rfl) (by kernel_rfl) ?_ (by kernel_rfl) trivial ?_
  · intro e S L' h
    unfold X_srchL at h
    split at h <;> first | (cases h; done) | (cases h; kernel_rfl) | (rcases bif_some h with h | h <;> cases h <;> kernel_rfl)
  · rintro ⟨u,⟨⟩,⟨⟩,⟨⟩,⟨⟩,k,now,els,envs,need,up,⟨⟩,⟨⟩⟩ hinv Q hQ
    refine hold_of_eq (B_srchL n hok u k now els envs need up) ?_
    obtain ⟨h0,h1,h2,h3,h4⟩:=hinv
    unfold O_srchL at hQ
    dsimp only at hQ
    obtain ⟨⟨u0,u1⟩,⟨n0,n1⟩,p1,p2,p3⟩:=h0
    rw [W_id (n:=k + 1) (by omega) (by omega)]
    refine ⟨fun c1 => ?_,fun c1 => ?_⟩
    · have c1:=of_decide_eq_true c1
      have mm:((up.length:Int) - (k + 1)).toNat < ((up.length:Int) - k).toNat:=by omega
      have hy:=p2 _ (getD_mem (d:=(0:Int)) (show k.toNat < up.length by omega))
      rw [srS_step h1 c1 h4] at hQ
      generalize up.getD k.toNat 0 = y at *
      have he:idxOk 10 (envs.getD y.toNat []):=p3 _ (getD_mem (by omega))
      have ev:envAt envs y = envs.getD y.toNat []:=rfl
      rw [ev] at hQ
      generalize envs.getD y.toNat [] = q at *
      have b1:=ofN_lt (n:=10) (s:=0) (l:=q) (by decide) (by decide) (fun i hi => (he.2 i hi).2)
      obtain ⟨S,rfl⟩:=Int.eq_ofNat_of_zero_le u0
      have b2:=or_lt (n:=10) (a:=S) (by omega) b1
      rw [Int.toNat_natCast] at hQ
      rw [andN _ _ (by omega) (by omega),orN _ _ (by omega) (by omega)]
      have ll:((now ++ [y]).length:Int) = now.length + 1:=by rw [List.length_append,List.length_singleton]; omega
      refine ⟨⟨h1,c1⟩,hy,he,fun c2 => ?_,fun c2 => ⟨⟨h1,c1⟩,by simp only [List.length_cons,List.length_nil]; omega,⟨⟨⟨⟨by omega,by omega⟩,⟨by omega,n1⟩,p1,p2,p3⟩,by omega,by omega⟩,?_⟩,fun c3 => ?_,fun c3 => ?_⟩⟩
      · have c2:ofN q 0 &&& S ≠ 0:=by
          have:((ofN q 0 &&& S:Nat):Int) ≠ 0:=by simpa using c2
          omega
        rw [if_pos c2] at hQ
        exact ⟨⟨⟨⟨⟨by omega,by omega⟩,⟨n0,n1⟩,p1,p2,p3⟩,by omega,by omega,by omega,h4⟩,mm⟩,hQ⟩
      · show ((up.length:Int) - (k + 1)).toNat < n
        omega
      all_goals
        have c2:¬ ofN q 0 &&& S ≠ 0:=by
          have:((ofN q 0 &&& S:Nat):Int) = 0:=by simpa using c2
          omega
        rw [if_neg c2] at hQ
      · cases hr:srS envs up (k + 1) ((S ||| ofN q 0:Nat):Int) (now ++ [y]) need with
        | none => rw [hr] at c3; cases c3
        | some x =>
          rw [hr] at hQ
          exact hQ.1 (by simp [orS])
      · cases hr:srS envs up (k + 1) ((S ||| ofN q 0:Nat):Int) (now ++ [y]) need with
        | some x => rw [hr] at c3; cases c3
        | none =>
          rw [hr,show ∀ y:Option (List Int),orS none y = y from fun _ => rfl] at hQ
          have et:List.take (((now ++ [y]).length:Int) - 1).toNat (now ++ [y]) = now:=by
            rw [show (((now ++ [y]).length:Int) - 1).toNat = now.length by omega,List.take_left]
          simp only [Option.getD_none]
          rw [W_id (n:=((now ++ [y]).length:Int) - 1) (by omega) (by omega),et]
          exact ⟨⟨by omega,by omega⟩,⟨⟨⟨⟨by omega,by omega⟩,⟨n0,n1⟩,p1,p2,p3⟩,by omega,by omega,by omega,h4⟩,mm⟩,hQ⟩
    · rw [srS_end (of_decide_eq_false c1) h4] at hQ
      exact hQ.2 (by simp)
theorem T_srch (n:Nat) (hok:H_srch n) (k u:Int) (now:List Int) (els:List E4) (envs:List (List Int)) (need:Int) (up:List Int):mTree (P:=P) [c_of.gc] (lpOf [(0,R_srchL n hok)]) Try.f76 L_srch true (k,u,(),(),(),(),now,els,envs,need,up,(),()) =
  Tree.cond ((now.length:Int) == need) (.leaf { res:=SV.bool true,boxes:=[[SV.own (nat_lit 100 + (0:Nat))],[SV.sl tEl els,SV.sl tIs envs,SV.int IntKind.i64 need],[SV.sl tI up],[SV.fn (76:FuncId) [SV.ptr (1:Nat) (0:Nat),SV.ptr (2:Nat) (0:Nat),SV.ptr (3:Nat) (0:Nat),SV.ptr (4:Nat) (0:Nat)]]],news:=[Ob.row (3:TypeId) tI now] }) (.need (inv_srchL n hok (u,(),(),(),(),k,now,els,envs,need,up,(),())) (.cond (Option.isSome (srS envs up k u now need)) (.leaf { res:=SV.bool true,boxes:=[[SV.own (nat_lit 100 + (0:Nat))],[SV.sl tEl els,SV.sl tIs envs,SV.int IntKind.i64 need],[SV.sl tI up],[SV.fn (76:FuncId) [SV.ptr (1:Nat) (0:Nat),SV.ptr (2:Nat) (0:Nat),SV.ptr (3:Nat) (0:Nat),SV.ptr (4:Nat) (0:Nat)]]],news:=[Ob.row (3:TypeId) tI (Option.getD (srS envs up k u now need) now)] }) (.leaf { res:=SV.bool false,boxes:=[[SV.own (nat_lit 100 + (0:Nat))],[SV.sl tEl els,SV.sl tIs envs,SV.int IntKind.i64 need],[SV.sl tI up],[SV.fn (76:FuncId) [SV.ptr (1:Nat) (0:Nat),SV.ptr (2:Nat) (0:Nat),SV.ptr (3:Nat) (0:Nat),SV.ptr (4:Nat) (0:Nat)]]],news:=[Ob.row (3:TypeId) tI now] }))):=by kernel_rfl
theorem M_srch:∀ n,H_srch n:=by
  intro n
  induction n with
  | zero => exact fun a h => absurd h.2 (Nat.not_lt_zero _)
  | succ n hok =>
    rintro ⟨k,u,⟨⟩,⟨⟩,⟨⟩,⟨⟩,now,els,envs,need,up,⟨⟩,⟨⟩⟩ hp
    refine m_of hm (own:=true) (by kernel_rfl) (by kernel_rfl) (by kernel_rfl) (T_srch n hok k u now els envs need up) ⟨K_srchL n hok,trivial⟩ ?_
    obtain ⟨⟨h0,h1,h2⟩,h3⟩:=hp
    have h3' : ((up.length:Int) - k).toNat < n + 1:=h3
    obtain ⟨⟨u0,u1⟩,⟨n0,n1⟩,p1,p2,p3⟩:=h0
    have fin:∀ (b:Bool) (x:List Int),srS envs up k u now need = (if b = true then some x else none) → (b = false → x = now) → (⟨SV.bool b,[[SV.own (100 + 0)],[SV.sl tEl els,SV.sl tIs envs,SV.int .i64 need],[SV.sl tI up],[SV.fn 76 [SV.ptr 1 0,SV.ptr 2 0,SV.ptr 3 0,SV.ptr 4 0]]],[Ob.row 3 tI x]⟩ : MOut) = out_srch (k,u,(),(),(),(),now,els,envs,need,up,(),()):=fun b x h hb => by
      unfold out_srch
      dsimp only
      rw [h]
      cases b with
      | true => rfl
      | false => rw [hb rfl]; rfl
    refine ⟨fun c1 => ?_,fun c1 => ⟨⟨⟨⟨u0,u1⟩,⟨n0,n1⟩,p1,p2,p3⟩,h1,h2,by omega,?_⟩,fun c2 => ?_,fun c2 => ?_⟩⟩
    · have c1:(now.length:Int) = need:=by simpa using c1
      exact fin true now (by rw [srS_zero c1,if_pos rfl]) (fun h => by cases h)
    · have c1:¬ (now.length:Int) = need:=by simpa using c1
      omega
    · cases hr:srS envs up k u now need with
      | none => rw [hr] at c2; cases c2
      | some x => exact fin true x (by rw [hr,if_pos rfl]) (fun h => by cases h)
    · cases hr:srS envs up k u now need with
      | some x => rw [hr] at c2; cases c2
      | none => exact fin false now (by rw [hr,if_neg (by decide)]) (fun _ => rfl)
def c_srch:MC P:=MC.of (α:=Int × Int × Unit × Unit × Unit × Unit × List Int × List E4 × List (List Int) × Int × List Int × Unit × Unit) 76 L_srch (fun x => x) (fun x => x) (fun _ => rfl) (fun a => some (pre_srch a)) out_srch (by kernel_rfl) (by kernel_rfl) (by kernel_rfl) (fun a h => M_srch (mu_srch a + 1) a ⟨h,Nat.lt_succ_self _⟩)
theorem standN_ok (s:Nat):∀ (l:List (List Int)) (i:Int),0 ≤ i → (standN s l i).length ≤ l.length ∧ ∀ k ∈ standN s l i,i ≤ k ∧ k < i + l.length
  | [],i,_ => ⟨Nat.le_refl _,fun k hk => (by cases hk)⟩
  | x :: l,i,h => by
    obtain ⟨h1,h2⟩:=standN_ok s l (i + 1) (by omega)
    rw [standN]
    split
    · refine ⟨by simp only [List.length_cons]; omega,fun k hk => ?_⟩
      rw [List.length_cons]
      rcases List.mem_cons.1 hk with rfl | hk
      · omega
      · have:=h2 k hk; omega
    · refine ⟨by simp only [List.length_cons]; omega,fun k hk => ?_⟩
      rw [List.length_cons]
      have:=h2 k hk; omega
theorem T_proofU (h_0:List (Int × V)) (h_1:List (List Int)) (h_2 s:Int):fnTree (P:=P) [c_standing.gc,c_srch.gc] (lpOf []) Try.f52 (encL 0 [.agg (.pair (.sl (.pair tI tV)) (.pair (.sl tIs) tI)),.val (.int .u64)] ((h_0,(h_1,h_2)),s,())) =
  Tree.need (List.length h_1 ≤ (1000:Nat) ∧ (∀ (q:List Int),q ∈ h_1 → idxOk (10:Int) q) ∧ (0:Int) ≤ s ∧ s < (1024:Int)) (.need (pre_srch ((0:Int),(0:Int),(),(),(),(),[],h_0,h_1,h_2,standN (Int.toNat s) h_1 (0:Int),(),())) (.cond (!Option.isSome (srS h_1 (standN (Int.toNat s) h_1 (0:Int)) (0:Int) (0:Int) [] h_2)) (.leaf SV.nils) (.leaf (SV.sl (Ty.int IntKind.i64) (Option.getD (srS h_1 (standN (Int.toNat s) h_1 (0:Int)) (0:Int) (0:Int) [] h_2) []))))):=by kernel_rfl
def c_proofU:PC P:=PC.of (α:=(List (Int × V) × (List (List Int) × Int)) × Int × Unit) 52 [.agg (.pair (.sl (.pair tI tV)) (.pair (.sl tIs) tI)),.val (.int .u64)] (fun x => x) (fun x => x) (fun _ => rfl)
  (fun x => some (x.1.2.1.length ≤ 1000 ∧ (∀ q ∈ x.1.2.1,idxOk 10 q) ∧ (0 ≤ x.2.1 ∧ x.2.1 < 1024) ∧ 1 ≤ x.1.2.2 ∧ x.1.2.2 ≤ 3))
  (fun x => .osl tI ((prfU x.1.2.1 (standN x.2.1.toNat x.1.2.1 0) 0 [] x.1.2.2.toNat).getD [])) (by kernel_rfl) (by
    rintro ⟨⟨h_0,⟨h_1,h_2⟩⟩,s,⟨⟩⟩ hp
    refine fn_le hm (by kernel_rfl) (by kernel_rfl) (T_proofU h_0 h_1 h_2 s) trivial (by kernel_rfl) ?_
    try dsimp only at hp
    try dsimp only
    obtain ⟨p1,p2,⟨p3,p4⟩,p5,p6⟩ : h_1.length ≤ 1000 ∧ (∀ q ∈ h_1,idxOk 10 q) ∧ (0 ≤ s ∧ s < 1024) ∧ 1 ≤ h_2 ∧ h_2 ≤ 3:=hp
    obtain ⟨q1,q2⟩:=standN_ok s.toNat h_1 0 (by decide)
    have e:srS h_1 (standN s.toNat h_1 0) 0 0 [] h_2 = prfU h_1 (standN s.toNat h_1 0) 0 [] h_2.toNat:=by
      unfold srS
      rw [List.length_nil,show (h_2 - ((0:Nat):Int)).toNat = h_2.toNat by omega]; rfl
    rw [e]
    refine ⟨⟨p1,p2,p3,p4⟩,⟨⟨⟨by decide,by decide⟩,⟨by show ((0:Nat):Int) ≤ _; omega,p6⟩,by omega,fun i hi => by have:=q2 i hi; omega,p2⟩,by decide,by omega⟩,fun c => ?_,fun c => ?_⟩
    · cases hr:prfU h_1 (standN s.toNat h_1 0) 0 [] h_2.toNat with
      | some x => rw [hr] at c; cases c
      | none => exact rfl
    · cases hr:prfU h_1 (standN s.toNat h_1 0) 0 [] h_2.toNat with
      | none => rw [hr] at c; cases c
      | some x =>
        have:=prfU_len hr
        refine ⟨fun h => ?_,rfl⟩
        have h:x = []:=h
        rw [h] at this
        simp at this
        omega)
end
end Go.MB
