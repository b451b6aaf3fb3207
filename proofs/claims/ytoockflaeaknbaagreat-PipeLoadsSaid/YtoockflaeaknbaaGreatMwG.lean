/- The reference's functions of paths, and that they compute what the program's do. -/
import Derived.Test.YtoockflaeaknbaaGreatMwD
namespace Go.MP
open Go Go.Sx Go.Proofs
set_option linter.unusedVariables false
set_option linter.unusedSimpArgs false
noncomputable section
def csq (n:Int):Int:=if isq n * isq n = n then isq n else isq n + 1
theorem csq_ok {n:Int} (h0:0 ≤ n) (h1:n ≤ 1125899906842624):0 ≤ csq n ∧ csq n ≤ 67108864 ∧ n ≤ csq n * csq n ∧ (csq n = 0 ∨ (csq n - 1) * (csq n - 1) < n):=by
  obtain ⟨h2,h3,h4⟩:=isq_ok h0 h1
  have h5:isq n ≤ 33554432:=(sq_le (b:=33554432) (by decide) (by omega)).2
  unfold csq
  split
  · rename_i e
    refine ⟨h2,by omega,by omega,?_⟩
    rcases Int.lt_or_le 0 (isq n) with h | h
    · right
      have:(isq n - 1) * (isq n - 1) = isq n * isq n - 2 * isq n + 1:=by grind
      omega
    · left; omega
  · rename_i e
    refine ⟨by omega,by omega,by omega,.inr ?_⟩
    rw [Int.add_sub_cancel]
    omega
theorem csq_root {n:Int} (h0:0 ≤ n) (h1:n ≤ 1125899906842624):(csq n * csq n = n ↔ isq n * isq n = n) ∧ (isq n * isq n = n → csq n = isq n):=by
  obtain ⟨h2,h3,h4⟩:=isq_ok h0 h1
  unfold csq
  split
  · rename_i e; exact ⟨Iff.rfl,fun _ => rfl⟩
  · rename_i e
    exact ⟨⟨fun h => by omega,fun h => absurd h e⟩,fun h => absurd h e⟩
def L_rRoot:Lay:={ slots:=[(0,.val tI),(4,.val tI),(5,.val tI)] }
def L_rRoot_0:Lay:={ slots:=[(0,.val tI),(4,.val tI)] }
def X_rRoot:Exit → St → Option Lay
  | .exit 0,_ => some L_rRoot_0
  | _,_ => none
abbrev C_rRoot:Code:=loopC (bodyOf Tryz.f54) 0
theorem B_rRoot (n a b:Int):loopBodyA (P:=P) [] (lpOf []) [] 34 noU (inner C_rRoot) L_rRoot X_rRoot (α:=Int × Int × Int × Unit) (fun x => x) (fun x => x) (n,a,b,()) =
  Tree.cond (decide (a < b)) (.need ((2:Int) ≠ (0:Int)) (.cond (decide (IntKind.i64.wrap (IntKind.i64.wrap (Int.tdiv (IntKind.i64.wrap (a + b)) (2:Int)) * IntKind.i64.wrap (Int.tdiv (IntKind.i64.wrap (a + b)) (2:Int))) < n)) (.leaf (Sum.inl (n,IntKind.i64.wrap (IntKind.i64.wrap (Int.tdiv (IntKind.i64.wrap (a + b)) (2:Int)) + (1:Int)),b,()))) (.leaf (Sum.inl (n,a,IntKind.i64.wrap (Int.tdiv (IntKind.i64.wrap (a + b)) (2:Int)),()))))) (.leaf (Sum.inr (Exit.exit (0:Nat),Lay.st L_rRoot_0 noU (n,a,())))):=by kernel_rfl
def inv_rRoot:Int × Int × Int × Unit → Prop:=fun (n,a,b,_) => 0 ≤ n ∧ n ≤ 1125899906842624 ∧ 0 ≤ a ∧ a ≤ csq n ∧ csq n ≤ b ∧ b ≤ 67108864
def O_rRoot:Int × Int × Int × Unit → Tree (Exit × St):=fun (n,_,_,_) => .leaf (.exit 0,L_rRoot_0.st noU (n,csq n,()))
def R_rRoot:LRun:=runOf 34 L_rRoot (fun x => x) (inv_rRoot) (O_rRoot)
theorem K_rRoot:LoopOk P [] 34 none noU C_rRoot (R_rRoot):=by
  refine loop_of hm (cx:=[]) [] (xl:=X_rRoot) (α:=Int × Int × Int × Unit) (fun x => x) (fun (_,a,b,_) => (b - a).toNat) (fun _ => rfl) (by kernel_rfl) (by kernel_rfl) ?_ (by kernel_rfl) trivial ?_
  · intro e S L' h
    unfold X_rRoot at h
    split at h <;> first | (cases h; done) | (cases h; kernel_rfl) | (rcases bif_some h with h | h <;> cases h <;> kernel_rfl)
  · rintro ⟨n,a,b,⟨⟩⟩ hinv Q hQ
    refine hold_of_eq (B_rRoot n a b) ?_
    obtain ⟨h0,h1,h2,h3,h4,h5⟩:=hinv
    obtain ⟨c1,c2,c3,c4⟩:=csq_ok h0 h1
    refine ⟨fun h => ?_,fun h => ?_⟩
    · simp only [decide_eq_true_eq] at h
      have e:Int.tdiv (a + b) 2 = (a + b) / 2:=Int.tdiv_eq_ediv_of_nonneg (by omega)
      rw [W_id (n:=a + b) (by omega) (by omega),e]
      generalize hm' : (a + b) / 2 = m
      have m1:a ≤ m:=by omega
      have m2:m < b:=by omega
      have hmm:=sq_mono (a:=m) (b:=67108864) (by omega) (by omega)
      have hm0:=sq_nonneg m
      rw [W_id (n:=m) (by omega) (by omega),W_id (n:=m * m) (by omega) (by omega),W_id (n:=m + 1) (by omega) (by omega)]
      refine ⟨by decide,fun hlt => ?_,fun hlt => ?_⟩
      · simp only [decide_eq_true_eq] at hlt
        have:m < csq n:=sq_lt c1 (by omega)
        exact ⟨⟨⟨h0,h1,by omega,by omega,h4,h5⟩,by show (b - (m + 1)).toNat < (b - a).toNat; omega⟩,hQ⟩
      · simp only [decide_eq_false_iff_not] at hlt
        have:csq n ≤ m:=by
          rcases c4 with c | c
          · omega
          · have:csq n - 1 < m:=sq_lt (by omega) (by omega)
            omega
        exact ⟨⟨⟨h0,h1,h2,h3,by omega,by omega⟩,by show (m - a).toNat < (b - a).toNat; omega⟩,hQ⟩
    · simp only [decide_eq_false_iff_not] at h
      have e:a = csq n:=by omega
      rw [e]; exact hQ
theorem T_rRoot (n:Int):fnTree (P:=P) [] (lpOf [(0,R_rRoot)]) Tryz.f54 (encL 0 [.val tI] (n,())) =
  Tree.cond (decide (n < (0:Int))) (.leaf (SV.tup [SV.int IntKind.i64 (0:Int),SV.bool false])) (.cond (decide (n > (1125899906842624:Int))) (.leaf (SV.tup [SV.int IntKind.i64 (0:Int),SV.bool false])) (.need (inv_rRoot (n,(0:Int),(67108864:Int),())) (.cond (IntKind.i64.wrap (csq n * csq n) != n) (.leaf (SV.tup [SV.int IntKind.i64 (0:Int),SV.bool false])) (.leaf (SV.tup [SV.int IntKind.i64 (csq n),SV.bool true]))))):=by kernel_rfl
def c_rRoot:PC P:=PC.of (α:=Int × Unit) 54 [.val tI] (fun x => x) (fun x => x) (fun _ => rfl)
  (fun _ => none)
  (fun x => .tup [.int .i64 (rootS x.1).1,.bool (rootS x.1).2]) (by kernel_rfl) (by
    rintro ⟨n,⟨⟩⟩ hp
    refine fn_of hm (by kernel_rfl) (by kernel_rfl) (T_rRoot n) ⟨K_rRoot,trivial⟩ ?_
    show Tree.holds (fun s => s = SV.tup [.int .i64 (rootS n).1,.bool (rootS n).2]) _
    refine ⟨fun h => ?_,fun h => ⟨fun h1 => ?_,fun h1 => ?_⟩⟩
    all_goals simp only [decide_eq_true_eq,decide_eq_false_iff_not] at *
    · show SV.tup _ = _
      unfold rootS
      rw [if_pos (by omega)]
    · show SV.tup _ = _
      unfold rootS
      rw [if_pos (by omega)]
    · obtain ⟨c1,c2,c3,c4⟩:=csq_ok (n:=n) (by omega) (by omega)
      obtain ⟨r1,r2⟩:=csq_root (n:=n) (by omega) (by omega)
      have h6:=sq_mono c1 c2
      rw [W_id (by omega) (by omega)]
      refine ⟨⟨by omega,by omega,by omega,c1,c2,by omega⟩,fun h2 => ?_,fun h2 => ?_⟩
      · have h2:¬ csq n * csq n = n:=by simpa using h2
        show SV.tup _ = _
        unfold rootS
        rw [if_neg (by omega),if_pos (by rw [r1] at h2; exact h2)]
      · have h2:csq n * csq n = n:=by simpa using h2
        rw [r1] at h2
        show SV.tup _ = _
        unfold rootS
        rw [if_neg (by omega),if_neg (by simpa using h2),r2 h2])
theorem T_rPlus (x y z a b c:Int):fnTree (P:=P) [] (lpOf []) Tryz.f64 (encL 0 [.agg tV,.agg tV] ((x,y,z),(a,b,c),())) =
  Tree.leaf (SV.agg [SV.int IntKind.i64 (IntKind.i64.wrap (x + a)),SV.int IntKind.i64 (IntKind.i64.wrap (y + b)),SV.int IntKind.i64 (IntKind.i64.wrap (z + c))]):=by kernel_rfl
def c_rPlus:PC P:=PC.of (α:=V × V × Unit) 64 [.agg tV,.agg tV] (fun x => x) (fun x => x) (fun _ => rfl)
  (fun _ => none)
  (fun x => svV (vadd x.1 x.2.1)) (by kernel_rfl) (by
    rintro ⟨⟨x,y,z⟩,⟨a,b,c⟩,⟨⟩⟩ hp
    refine fn_of hm (by kernel_rfl) (by kernel_rfl) (T_rPlus x y z a b c) trivial ?_
    exact rfl)
theorem T_rDot (x y z a b c:Int):fnTree (P:=P) [] (lpOf []) Tryz.f55 (encL 0 [.agg tV,.agg tV] ((x,y,z),(a,b,c),())) =
  Tree.leaf (SV.int IntKind.i64 (IntKind.i64.wrap (IntKind.i64.wrap (IntKind.i64.wrap (x * a) + IntKind.i64.wrap (y * b)) + IntKind.i64.wrap (z * c)))):=by kernel_rfl
def c_rDot:PC P:=PC.of (α:=V × V × Unit) 55 [.agg tV,.agg tV] (fun x => x) (fun x => x) (fun _ => rfl)
  (fun _ => none)
  (fun x => .int .i64 (vdot x.1 x.2.1)) (by kernel_rfl) (by
    rintro ⟨⟨x,y,z⟩,⟨a,b,c⟩,⟨⟩⟩ hp
    refine fn_of hm (by kernel_rfl) (by kernel_rfl) (T_rDot x y z a b c) trivial ?_
    exact rfl)
theorem T_rwithin (x y z n:Int):fnTree (P:=P) [] (lpOf []) Tryz.f83 (encL 0 [.agg tV,.val tI] ((x,y,z),n,())) =
  Tree.cond (decide (x ≥ IntKind.i64.wrap ((0:Int) - n))) (.cond (decide (x ≤ n)) (.cond (decide (y ≥ IntKind.i64.wrap ((0:Int) - n))) (.cond (decide (y ≤ n)) (.cond (decide (z ≥ IntKind.i64.wrap ((0:Int) - n))) (.leaf (SV.bool (decide (z ≤ n)))) (.leaf (SV.bool false))) (.leaf (SV.bool false))) (.leaf (SV.bool false))) (.leaf (SV.bool false))) (.leaf (SV.bool false)):=by kernel_rfl
def c_rwithin:PC P:=PC.of (α:=V × Int × Unit) 83 [.agg tV,.val tI] (fun x => x) (fun x => x) (fun _ => rfl)
  (fun x => some (0 ≤ x.2.1 ∧ x.2.1 < 2 ^ 62))
  (fun x => .bool (inB x.1 x.2.1)) (by kernel_rfl) (by
    rintro ⟨⟨x,y,z⟩,n,⟨⟩⟩ hp
    refine fn_of hm (by kernel_rfl) (by kernel_rfl) (T_rwithin x y z n) trivial ?_
    obtain ⟨h0,h1⟩ : 0 ≤ n ∧ n < 2 ^ 62:=hp
    rw [W_id (n:=0 - n) (by omega) (by omega)]
    show Tree.holds (fun s => s = SV.bool (inB (x,y,z) n)) _
    have e:inB (x,y,z) n = (decide (x ≥ 0 - n) && (decide (x ≤ n) && (decide (y ≥ 0 - n) && (decide (y ≤ n) && (decide (z ≥ 0 - n) && decide (z ≤ n)))))):=by
      unfold inB
      rw [Bool.eq_iff_iff]
      simp only [Bool.and_eq_true,decide_eq_true_eq]
      omega
    rw [e]
    refine ⟨fun a1 => ⟨fun a2 => ⟨fun a3 => ⟨fun a4 => ⟨fun a5 => ?_,fun a5 => ?_⟩,fun a4 => ?_⟩,fun a3 => ?_⟩,fun a2 => ?_⟩,fun a1 => ?_⟩
    all_goals (show SV.bool _ = SV.bool _; simp only [*,Bool.true_and,Bool.false_and]))
theorem T_rplace (x y z:Int):fnTree (P:=P) [c_rwithin.gc] (lpOf []) Tryz.f61 (encL 0 [.agg tV] ((x,y,z),())) =
  Tree.need ((0:Int) ≤ (1048576:Int) ∧ (1048576:Int) < (2:Int) ^ (62:Nat)) (.cond (inB (x,y,z) (1048576:Int)) (.leaf (SV.bool (decide (z ≥ (0:Int))))) (.leaf (SV.bool false))):=by kernel_rfl
def c_rplace:PC P:=PC.of (α:=V × Unit) 61 [.agg tV] (fun x => x) (fun x => x) (fun _ => rfl)
  (fun _ => none)
  (fun x => .bool (validS x.1)) (by kernel_rfl) (by
    rintro ⟨⟨x,y,z⟩,⟨⟩⟩ hp
    refine fn_of hm (by kernel_rfl) (by kernel_rfl) (T_rplace x y z) trivial ?_
    refine ⟨by decide,fun h => ?_,fun h => ?_⟩ <;> (show SV.bool _ = _; simp only [validS,h,Bool.true_and,Bool.false_and]))
theorem T_rwhole (x y z:Int):fnTree (P:=P) [c_rwithin.gc,c_rDot.gc,c_rRoot.gc] (lpOf []) Tryz.f62 (encL 0 [.agg tV] ((x,y,z),())) =
  Tree.need ((0:Int) ≤ (16777216:Int) ∧ (16777216:Int) < (2:Int) ^ (62:Nat)) (.cond (!inB (x,y,z) (16777216:Int)) (.leaf (SV.bool false)) (.leaf (SV.bool (rootS (vdot (x,y,z) (x,y,z))).snd))):=by kernel_rfl
def c_rwhole:PC P:=PC.of (α:=V × Unit) 62 [.agg tV] (fun x => x) (fun x => x) (fun _ => rfl)
  (fun _ => none)
  (fun x => .bool (wholeS x.1).2) (by kernel_rfl) (by
    rintro ⟨⟨x,y,z⟩,⟨⟩⟩ hp
    refine fn_of hm (by kernel_rfl) (by kernel_rfl) (T_rwhole x y z) trivial ?_
    refine ⟨by decide,fun h => ?_,fun h => ?_⟩
    · simp only [Bool.not_eq_true'] at h
      show SV.bool _ = _
      simp only [wholeS,h,if_neg (Bool.false_ne_true)]
    · simp only [Bool.not_eq_false'] at h
      show SV.bool _ = _
      simp only [wholeS,h,if_true,vdot_eq h h])
def longS (v:V):Int × Bool:=if inB v 131072 = true then ((wholeS v).1,(legS v).2) else (0,false)
theorem long_ok {v:V} (h:(wholeS v).2 = true):(longS v).2 = decide (1 ≤ (wholeS v).1 ∧ (wholeS v).1 ≤ 131072) ∧ ((longS v).2 = true → (longS v).1 = (wholeS v).1):=by
  unfold longS
  split
  · refine ⟨?_,fun _ => rfl⟩
    unfold legS
    rw [Bool.eq_iff_iff]
    simp [h]
  · rename_i hi
    refine ⟨?_,fun h => by cases h⟩
    symm
    simp only [decide_eq_false_iff_not]
    intro hn
    exact hi (inB_of_whole' h (by omega))
where
  inB_of_whole' {v:V} {n:Int} (h:(wholeS v).2 = true) (h2:(wholeS v).1 ≤ n):inB v n = true:=inB_mono (wholeS_true h).2.2.2.1 h2
theorem long_leg {v:V} (h:legOk v):longS v = ((wholeS v).1,true):=by
  obtain ⟨h1,h2,h3⟩:=h
  obtain ⟨h4,h5⟩:=long_ok h1
  have h6:(longS v).2 = true:=by rw [h4]; simp; omega
  exact Prod.ext (h5 h6) h6
theorem T_rlong (x y z:Int):fnTree (P:=P) [c_rwithin.gc,c_rDot.gc,c_rRoot.gc] (lpOf []) Tryz.f63 (encL 0 [.agg tV] ((x,y,z),())) =
  Tree.need ((0:Int) ≤ (131072:Int) ∧ (131072:Int) < (2:Int) ^ (62:Nat)) (.cond (!inB (x,y,z) (131072:Int)) (.leaf (SV.tup [SV.int IntKind.i64 (0:Int),SV.bool false])) (.cond (rootS (vdot (x,y,z) (x,y,z))).snd (.cond (decide ((rootS (vdot (x,y,z) (x,y,z))).fst ≥ (1:Int))) (.leaf (SV.tup [SV.int IntKind.i64 (rootS (vdot (x,y,z) (x,y,z))).fst,SV.bool (decide ((rootS (vdot (x,y,z) (x,y,z))).fst ≤ (131072:Int)))])) (.leaf (SV.tup [SV.int IntKind.i64 (rootS (vdot (x,y,z) (x,y,z))).fst,SV.bool false]))) (.leaf (SV.tup [SV.int IntKind.i64 (rootS (vdot (x,y,z) (x,y,z))).fst,SV.bool false])))):=by kernel_rfl
def c_rlong:PC P:=PC.of (α:=V × Unit) 63 [.agg tV] (fun x => x) (fun x => x) (fun _ => rfl)
  (fun _ => none)
  (fun x => .tup [.int .i64 (longS x.1).1,.bool (longS x.1).2]) (by kernel_rfl) (by
    rintro ⟨⟨x,y,z⟩,⟨⟩⟩ hp
    refine fn_of hm (by kernel_rfl) (by kernel_rfl) (T_rlong x y z) trivial ?_
    show Tree.holds (fun s => s = SV.tup [.int .i64 (longS (x,y,z)).1,.bool (longS (x,y,z)).2]) _
    unfold longS
    refine ⟨by decide,fun h => ?_,fun h => ?_⟩
    · simp only [Bool.not_eq_true'] at h
      rw [h,if_neg Bool.false_ne_true]
      exact rfl
    · simp only [Bool.not_eq_false'] at h
      have h24:=inB_mono h (show (131072:Int) ≤ 16777216 by decide)
      have e:wholeS (x,y,z) = rootS (dotZ (x,y,z) (x,y,z)):=if_pos h24
      rw [if_pos h,vdot_eq h24 h24,← e]
      unfold legS
      refine ⟨fun h => ⟨fun h2 => ?_,fun h2 => ?_⟩,fun h => ?_⟩
      · show SV.tup _ = _
        simp only [h,h2,Bool.true_and]
      · show SV.tup _ = _
        simp only [h,h2,Bool.true_and,Bool.false_and]
      · show SV.tup _ = _
        simp only [h,Bool.false_and])
end
end Go.MP
