/- Numbers: the walks of roots, sides, bends, quotients, drags. -/
import Derived.Test.YtoockflaeaknbaaGreatMvE
import Derived.Test.YtoockflaeaknbaaGreatMwJ
import Derived.Laws.Bits64b
import Derived.Lib.Mul64
namespace Go.MP
open Go Go.Sx Go.Proofs
set_option linter.unusedVariables false
set_option linter.unusedSimpArgs false
noncomputable section
theorem shl_half (k:Nat):(2:Int) ^ (k + 1) / 2 = 2 ^ k:=by rw [Int.pow_succ]; omega
def L_root31:Lay:={ slots:=[(0,.val tI),(3,.val tI),(4,.val tI)] }
def L_root31_0:Lay:={ slots:=[(3,.val tI)] }
def X_root31:Exit → St → Option Lay
  | .exit 0,_ => some L_root31_0
  | _,_ => none
abbrev C_root31:Code:=loopC (bodyOf Tryz.f53) 0
theorem B_root31 (n r b:Int):loopBodyA (P:=P) [] (lpOf []) [] 22 noU (inner C_root31) L_root31 X_root31 (α:=Int × Int × Int × Unit) (fun x => x) (fun x => x) (n,r,b,()) =
  Tree.cond (decide (b > (0:Int))) (.cond (decide (IntKind.i64.wrap (IntKind.i64.wrap (r + b) * IntKind.i64.wrap (r + b)) ≤ n)) (.need ((0:Int) ≤ (1:Int)) (.leaf (Sum.inl (n,IntKind.i64.wrap (r + b),shrI IntKind.i64 b (1:Int),())))) (.need ((0:Int) ≤ (1:Int)) (.leaf (Sum.inl (n,r,shrI IntKind.i64 b (1:Int),()))))) (.leaf (Sum.inr (Exit.exit (0:Nat),Lay.st L_root31_0 noU (r,())))):=by kernel_rfl
def inv_root31:Int × Int × Int × Unit → Prop:=fun (n,r,b,()) => 0 ≤ n ∧ n < 4611686018427387904 ∧ 0 ≤ r ∧ r + 2 * b ≤ 2147483648 ∧ ∃ k:Nat,b = 2 ^ k / 2 ∧ rootBits k n r = sqI n
def O_root31:Int × Int × Int × Unit → Tree (Exit × St):=fun (n,r,b,()) => (.leaf (.exit 0,L_root31_0.st noU ((sqI n),())))
def R_root31:LRun:=runOf 22 L_root31 (fun x => x) (inv_root31) (O_root31)
theorem K_root31:LoopOk P [] 22 none noU C_root31 (R_root31):=by
  refine loop_of hm (cx:=[]) [] (xl:=X_root31) (α:=Int × Int × Int × Unit) (fun x => x) (fun (n,r,b,()) => b.toNat) (fun _ => rfl) (by kernel_rfl) (by kernel_rfl) ?_ (by kernel_rfl) trivial ?_
  · intro e S L' h
    unfold X_root31 at h
    split at h <;> first | (cases h; done) | (cases h; kernel_rfl) | (rcases bif_some h with h | h <;> cases h <;> kernel_rfl)
  · rintro ⟨n,r,b,⟨⟩⟩ hinv Q hQ
    refine hold_of_eq (B_root31 n r b) ?_
    obtain ⟨h0,h1,h2,h3,k,hb,hk⟩:=hinv
    have hQ' : Q (.exit 0,L_root31_0.st noU (sqI n,())):=hQ
    have hp:(0:Int) < 2 ^ k:=Int.pow_pos (by decide)
    cases k with
    | zero =>
      have hb0:b = 0:=hb
      subst hb0
      have e:r = sqI n:=hk
      rw [← e] at hQ'
      exact ⟨fun h => by simp at h,fun _ => hQ'⟩
    | succ k =>
      have hp' : (0:Int) < 2 ^ k:=Int.pow_pos (by decide)
      have hb' : b = 2 ^ k:=by rw [hb,shl_half]
      have hsq:=mul_rng (a:=r + b) (b:=r + b) (A:=2147483648) (B:=2147483648) (by omega) (by omega) (by omega) (by omega)
      rw [W_id (n:=r + b) (by omega) (by omega),W_id (n:=(r + b) * (r + b)) (by omega) (by omega),shr1]
      unfold rootBits at hk
      clear hb
      subst hb'
      refine ⟨fun _ => ⟨fun h => ⟨by decide,?_⟩,fun h => ⟨by decide,?_⟩⟩,fun h => by simp at h; omega⟩
      · have h:=of_decide_eq_true h
        rw [if_pos h] at hk
        exact ⟨⟨⟨h0,h1,by omega,by omega,k,rfl,hk⟩,by show Int.toNat (2 ^ k / 2) < Int.toNat (2 ^ k); omega⟩,hQ'⟩
      · have h:=of_decide_eq_false h
        rw [if_neg h] at hk
        exact ⟨⟨⟨h0,h1,h2,by omega,k,rfl,hk⟩,by show Int.toNat (2 ^ k / 2) < Int.toNat (2 ^ k); omega⟩,hQ'⟩
theorem T_proot (n:Int):fnTree (P:=P) [] (lpOf [(0,R_root31)]) Tryz.f53 (encL 0 [.val tI] (n,())) =
  Tree.need (inv_root31 (n,(0:Int),(1073741824:Int),())) (.leaf (SV.int IntKind.i64 (sqI n))):=by kernel_rfl
def c_proot:PC P:=PC.of (α:=Int × Unit) 53 [.val tI] (fun x => x) (fun x => x) (fun _ => rfl)
  (fun x => some (0 ≤ x.1 ∧ x.1 < 4611686018427387904))
  (fun x => .int .i64 (sqI x.1)) (by kernel_rfl) (by
    rintro ⟨n,⟨⟩⟩ hp
    refine fn_of hm (by kernel_rfl) (by kernel_rfl) (T_proot n) ⟨K_root31,trivial⟩ ?_
    try dsimp only at hp
    try dsimp only
    have hp' : 0 ≤ n ∧ n < 4611686018427387904:=hp
    exact ⟨⟨hp'.1,hp'.2,by omega,by omega,31,by decide,rfl⟩,rfl⟩)
def L_rroot31:Lay:={ slots:=[(0,.val tI),(3,.val tI),(4,.val tI)] }
def L_rroot31_0:Lay:={ slots:=[(3,.val tI)] }
def X_rroot31:Exit → St → Option Lay
  | .exit 0,_ => some L_rroot31_0
  | _,_ => none
abbrev C_rroot31:Code:=loopC (bodyOf Tryz.f58) 0
theorem B_rroot31 (n a b:Int):loopBodyA (P:=P) [] (lpOf []) [] 23 noU (inner C_rroot31) L_rroot31 X_rroot31 (α:=Int × Int × Int × Unit) (fun x => x) (fun x => x) (n,a,b,()) =
  Tree.cond (decide (a < b)) (.need ((2:Int) ≠ (0:Int)) (.cond (decide (IntKind.i64.wrap (IntKind.i64.wrap (Int.tdiv (IntKind.i64.wrap (IntKind.i64.wrap (a + b) + (1:Int))) (2:Int)) * IntKind.i64.wrap (Int.tdiv (IntKind.i64.wrap (IntKind.i64.wrap (a + b) + (1:Int))) (2:Int))) ≤ n)) (.leaf (Sum.inl (n,IntKind.i64.wrap (Int.tdiv (IntKind.i64.wrap (IntKind.i64.wrap (a + b) + (1:Int))) (2:Int)),b,()))) (.leaf (Sum.inl (n,a,IntKind.i64.wrap (IntKind.i64.wrap (Int.tdiv (IntKind.i64.wrap (IntKind.i64.wrap (a + b) + (1:Int))) (2:Int)) - (1:Int)),()))))) (.leaf (Sum.inr (Exit.exit (0:Nat),Lay.st L_rroot31_0 noU (a,())))):=by kernel_rfl
def inv_rroot31:Int × Int × Int × Unit → Prop:=fun (n,a,b,()) => 0 ≤ n ∧ n < 4611686018427387904 ∧ 0 ≤ a ∧ a ≤ sqI n ∧ sqI n ≤ b ∧ b ≤ 2147483648
def O_rroot31:Int × Int × Int × Unit → Tree (Exit × St):=fun (n,a,b,()) => (.leaf (.exit 0,L_rroot31_0.st noU ((sqI n),())))
def R_rroot31:LRun:=runOf 23 L_rroot31 (fun x => x) (inv_rroot31) (O_rroot31)
theorem K_rroot31:LoopOk P [] 23 none noU C_rroot31 (R_rroot31):=by
  refine loop_of hm (cx:=[]) [] (xl:=X_rroot31) (α:=Int × Int × Int × Unit) (fun x => x) (fun (n,a,b,()) => (b - a).toNat) (fun _ => rfl) (by kernel_rfl) (by kernel_rfl) ?_ (by kernel_rfl) trivial ?_
  · intro e S L' h
    unfold X_rroot31 at h
    split at h <;> first | (cases h; done) | (cases h; kernel_rfl) | (rcases bif_some h with h | h <;> cases h <;> kernel_rfl)
  · rintro ⟨n,a,b,⟨⟩⟩ hinv Q hQ
    refine hold_of_eq (B_rroot31 n a b) ?_
    obtain ⟨h0,h1,h2,h3,h4,h5⟩:=hinv
    obtain ⟨s0,s1,s2⟩:=sqI_ok h0 h1
    have hQ' : Q (.exit 0,L_rroot31_0.st noU (sqI n,())):=hQ
    refine ⟨fun h => ?_,fun h => ?_⟩
    · have h:=of_decide_eq_true h
      rw [W_id (n:=a + b) (by omega) (by omega),W_id (n:=a + b + 1) (by omega) (by omega),Int.tdiv_eq_ediv_of_nonneg (show 0 ≤ a + b + 1 by omega)]
      generalize hm' : (a + b + 1) / 2 = m
      have m1:a < m:=by omega
      have m2:m ≤ b:=by omega
      have hsq:=mul_rng (a:=m) (b:=m) (A:=2147483648) (B:=2147483648) (by omega) (by omega) (by omega) (by omega)
      rw [W_id (n:=m) (by omega) (by omega),W_id (n:=m * m) (by omega) (by omega),W_id (n:=m - 1) (by omega) (by omega)]
      refine ⟨by decide,fun c => ?_,fun c => ?_⟩
      · have c:=of_decide_eq_true c
        have:m < sqI n + 1:=sq_lt (by omega) (by omega)
        exact ⟨⟨⟨h0,h1,by omega,by omega,h4,h5⟩,by show (b - m).toNat < (b - a).toNat; omega⟩,hQ'⟩
      · have c:=of_decide_eq_false c
        have:sqI n < m:=sq_lt (by omega) (by omega)
        exact ⟨⟨⟨h0,h1,h2,h3,by omega,by omega⟩,by show (m - 1 - a).toNat < (b - a).toNat; omega⟩,hQ'⟩
    · have h:=of_decide_eq_false h
      have e:a = sqI n:=by omega
      rw [← e] at hQ'
      exact hQ'
theorem T_rroot (n:Int):fnTree (P:=P) [] (lpOf [(0,R_rroot31)]) Tryz.f58 (encL 0 [.val tI] (n,())) =
  Tree.need (inv_rroot31 (n,(0:Int),(2147483648:Int),())) (.leaf (SV.int IntKind.i64 (sqI n))):=by kernel_rfl
def c_rroot:PC P:=PC.of (α:=Int × Unit) 58 [.val tI] (fun x => x) (fun x => x) (fun _ => rfl)
  (fun x => some (0 ≤ x.1 ∧ x.1 < 4611686018427387904))
  (fun x => .int .i64 (sqI x.1)) (by kernel_rfl) (by
    rintro ⟨n,⟨⟩⟩ hp
    refine fn_of hm (by kernel_rfl) (by kernel_rfl) (T_rroot n) ⟨K_rroot31,trivial⟩ ?_
    try dsimp only at hp
    try dsimp only
    have hp' : 0 ≤ n ∧ n < 4611686018427387904:=hp
    obtain ⟨s0,s1,s2⟩:=sqI_ok hp'.1 hp'.2
    have:=sqI_lt hp'.1 hp'.2
    exact ⟨⟨hp'.1,hp'.2,by omega,s0,by omega,by omega⟩,rfl⟩)
theorem T_rroots (n:Int):fnTree (P:=P) [c_rroot.gc] (lpOf []) Tryz.f82 (encL 0 [.val tI] (n,())) =
  Tree.need ((0:Int) ≤ n ∧ n < (4611686018427387904:Int)) (.cond (IntKind.i64.wrap (sqI n * sqI n) == n) (.leaf (SV.agg [SV.int IntKind.i64 (sqI n),SV.int IntKind.i64 (sqI n)])) (.leaf (SV.agg [SV.int IntKind.i64 (sqI n),SV.int IntKind.i64 (IntKind.i64.wrap (sqI n + (1:Int)))]))):=by kernel_rfl
def c_rroots:PC P:=PC.of (α:=Int × Unit) 82 [.val tI] (fun x => x) (fun x => x) (fun _ => rfl)
  (fun x => some (0 ≤ x.1 ∧ x.1 < 4611686018427387904))
  (fun x => .agg [.int .i64 (rootsS x.1).1,.int .i64 (rootsS x.1).2]) (by kernel_rfl) (by
    rintro ⟨n,⟨⟩⟩ hp
    refine fn_of hm (by kernel_rfl) (by kernel_rfl) (T_rroots n) trivial ?_
    try dsimp only at hp
    try dsimp only
    have hp' : 0 ≤ n ∧ n < 4611686018427387904:=hp
    obtain ⟨s0,s1,s2⟩:=sqI_ok hp'.1 hp'.2
    have h3:=sqI_lt hp'.1 hp'.2
    have h4:=sq_nonneg (sqI n)
    show Tree.holds (fun s => s = SV.agg [.int .i64 (rootsS n).1,.int .i64 (rootsS n).2]) _
    unfold rootsS
    rw [W_id (n:=sqI n * sqI n) (by omega) (by omega),W_id (n:=sqI n + 1) (by omega) (by omega)]
    refine ⟨hp',fun c => ?_,fun c => ?_⟩
    · rw [if_pos (eq_of_beq c)]; exact rfl
    · rw [if_neg (by simpa using c)]; exact rfl)
theorem T_Side (v_0 v_1 v_2:Int):fnTree (P:=P) [c_proot.gc] (lpOf []) Tryz.f52 (encL 0 [.agg tV] ((v_0,(v_1,v_2)),())) =
  Tree.cond (decide (minI (minI v_0 v_1) v_2 < (-16777216:Int))) (.leaf (SV.agg [SV.int IntKind.i64 (0:Int),SV.int IntKind.i64 (0:Int)])) (.cond (decide (maxI (maxI v_0 v_1) v_2 > (16777216:Int))) (.leaf (SV.agg [SV.int IntKind.i64 (0:Int),SV.int IntKind.i64 (0:Int)])) (.need ((0:Int) ≤ IntKind.i64.wrap (IntKind.i64.wrap (v_0 * v_0) + IntKind.i64.wrap (v_1 * v_1)) ∧ IntKind.i64.wrap (IntKind.i64.wrap (v_0 * v_0) + IntKind.i64.wrap (v_1 * v_1)) < (4611686018427387904:Int)) (.cond (IntKind.i64.wrap (sqI (IntKind.i64.wrap (IntKind.i64.wrap (v_0 * v_0) + IntKind.i64.wrap (v_1 * v_1))) * sqI (IntKind.i64.wrap (IntKind.i64.wrap (v_0 * v_0) + IntKind.i64.wrap (v_1 * v_1)))) == IntKind.i64.wrap (IntKind.i64.wrap (v_0 * v_0) + IntKind.i64.wrap (v_1 * v_1))) (.leaf (SV.agg [SV.int IntKind.i64 (sqI (IntKind.i64.wrap (IntKind.i64.wrap (v_0 * v_0) + IntKind.i64.wrap (v_1 * v_1)))),SV.int IntKind.i64 (sqI (IntKind.i64.wrap (IntKind.i64.wrap (v_0 * v_0) + IntKind.i64.wrap (v_1 * v_1))))])) (.leaf (SV.agg [SV.int IntKind.i64 (sqI (IntKind.i64.wrap (IntKind.i64.wrap (v_0 * v_0) + IntKind.i64.wrap (v_1 * v_1)))),SV.int IntKind.i64 (IntKind.i64.wrap (sqI (IntKind.i64.wrap (IntKind.i64.wrap (v_0 * v_0) + IntKind.i64.wrap (v_1 * v_1))) + (1:Int)))]))))):=by kernel_rfl
def c_Side:PC P:=PC.of (α:=V × Unit) 52 [.agg tV] (fun x => x) (fun x => x) (fun _ => rfl)
  (fun _ => none)
  (fun x => .agg [.int .i64 (sideS x.1).1,.int .i64 (sideS x.1).2]) (by kernel_rfl) (by
    rintro ⟨⟨v_0,⟨v_1,v_2⟩⟩,⟨⟩⟩ hp
    refine fn_of hm (by kernel_rfl) (by kernel_rfl) (T_Side v_0 v_1 v_2) trivial ?_
    try dsimp only at hp
    try dsimp only
    show Tree.holds (fun s => s = SV.agg [.int .i64 (sideS (v_0,v_1,v_2)).1,.int .i64 (sideS (v_0,v_1,v_2)).2]) _
    have hin:inB (v_0,v_1,v_2) 16777216 = true → IntKind.i64.wrap (IntKind.i64.wrap (v_0 * v_0) + IntKind.i64.wrap (v_1 * v_1)) = v_0 * v_0 + v_1 * v_1 ∧ 0 ≤ v_0 * v_0 + v_1 * v_1 ∧ v_0 * v_0 + v_1 * v_1 < 4611686018427387904:=by
      intro h
      rw [inB_iff] at h
      have x1:=mulB h.1 h.1
      have x2:=mulB h.2.1 h.2.1
      have x3:=sq_nonneg v_0
      have x4:=sq_nonneg v_1
      dsimp only at x1 x2
      rw [W_id (n:=v_0 * v_0) (by omega) (by omega),W_id (n:=v_1 * v_1) (by omega) (by omega),W_id (by omega) (by omega)]
      omega
    unfold sideS
    refine ⟨fun c1 => ?_,fun c1 => ⟨fun c2 => ?_,fun c2 => ?_⟩⟩
    · have c1:=of_decide_eq_true c1
      rw [minI_eq,minI_eq] at c1
      rw [if_neg (by rw [inB_iff]; dsimp only; omega)]
      exact rfl
    · have c2:=of_decide_eq_true c2
      rw [maxI_eq,maxI_eq] at c2
      rw [if_neg (by rw [inB_iff]; dsimp only; omega)]
      exact rfl
    · have c1:=of_decide_eq_false c1
      have c2:=of_decide_eq_false c2
      rw [minI_eq,minI_eq] at c1
      rw [maxI_eq,maxI_eq] at c2
      have h:inB (v_0,v_1,v_2) 16777216 = true:=by rw [inB_iff]; dsimp only; omega
      obtain ⟨e1,e2,e3⟩:=hin h
      rw [if_pos h,e1]
      dsimp only
      obtain ⟨s0,s1,s2⟩:=sqI_ok e2 e3
      have h3:=sqI_lt e2 e3
      have h4:=sq_nonneg (sqI (v_0 * v_0 + v_1 * v_1))
      unfold rootsS
      rw [W_id (n:=sqI (v_0 * v_0 + v_1 * v_1) * sqI (v_0 * v_0 + v_1 * v_1)) (by omega) (by omega),W_id (n:=sqI (v_0 * v_0 + v_1 * v_1) + 1) (by omega) (by omega)]
      refine ⟨⟨e2,e3⟩,fun c => ?_,fun c => ?_⟩
      · rw [if_pos (eq_of_beq c)]; exact rfl
      · rw [if_neg (by simpa using c)]; exact rfl)
theorem T_rSide (v_0 v_1 v_2:Int):fnTree (P:=P) [c_rroots.gc,c_between.gc] (lpOf []) Tryz.f57 (encL 0 [.agg tV] ((v_0,(v_1,v_2)),())) =
  Tree.cond (!wi v_0 (-16777216:Int) (16777216:Int)) (.leaf (SV.agg [SV.int IntKind.i64 (0:Int),SV.int IntKind.i64 (0:Int)])) (.cond (!wi v_1 (-16777216:Int) (16777216:Int)) (.leaf (SV.agg [SV.int IntKind.i64 (0:Int),SV.int IntKind.i64 (0:Int)])) (.cond (!wi v_2 (-16777216:Int) (16777216:Int)) (.leaf (SV.agg [SV.int IntKind.i64 (0:Int),SV.int IntKind.i64 (0:Int)])) (.need ((0:Int) ≤ IntKind.i64.wrap (IntKind.i64.wrap (v_0 * v_0) + IntKind.i64.wrap (v_1 * v_1)) ∧ IntKind.i64.wrap (IntKind.i64.wrap (v_0 * v_0) + IntKind.i64.wrap (v_1 * v_1)) < (4611686018427387904:Int)) (.leaf (SV.agg [SV.int IntKind.i64 (rootsS (IntKind.i64.wrap (IntKind.i64.wrap (v_0 * v_0) + IntKind.i64.wrap (v_1 * v_1)))).fst,SV.int IntKind.i64 (rootsS (IntKind.i64.wrap (IntKind.i64.wrap (v_0 * v_0) + IntKind.i64.wrap (v_1 * v_1)))).snd]))))):=by kernel_rfl
def c_rSide:PC P:=PC.of (α:=V × Unit) 57 [.agg tV] (fun x => x) (fun x => x) (fun _ => rfl)
  (fun _ => none)
  (fun x => .agg [.int .i64 (sideS x.1).1,.int .i64 (sideS x.1).2]) (by kernel_rfl) (by
    rintro ⟨⟨v_0,⟨v_1,v_2⟩⟩,⟨⟩⟩ hp
    refine fn_of hm (by kernel_rfl) (by kernel_rfl) (T_rSide v_0 v_1 v_2) trivial ?_
    try dsimp only at hp
    try dsimp only
    show Tree.holds (fun s => s = SV.agg [.int .i64 (sideS (v_0,v_1,v_2)).1,.int .i64 (sideS (v_0,v_1,v_2)).2]) _
    have hin:inB (v_0,v_1,v_2) 16777216 = true → IntKind.i64.wrap (IntKind.i64.wrap (v_0 * v_0) + IntKind.i64.wrap (v_1 * v_1)) = v_0 * v_0 + v_1 * v_1 ∧ 0 ≤ v_0 * v_0 + v_1 * v_1 ∧ v_0 * v_0 + v_1 * v_1 < 4611686018427387904:=by
      intro h
      rw [inB_iff] at h
      have x1:=mulB h.1 h.1
      have x2:=mulB h.2.1 h.2.1
      have x3:=sq_nonneg v_0
      have x4:=sq_nonneg v_1
      dsimp only at x1 x2
      rw [W_id (n:=v_0 * v_0) (by omega) (by omega),W_id (n:=v_1 * v_1) (by omega) (by omega),W_id (by omega) (by omega)]
      omega
    unfold sideS
    refine ⟨fun c1 => ?_,fun c1 => ⟨fun c2 => ?_,fun c2 => ⟨fun c3 => ?_,fun c3 => ?_⟩⟩⟩
    · have c1:¬ (-16777216 ≤ v_0 ∧ v_0 ≤ 16777216):=by rw [← wi_iff]; simpa using c1
      rw [if_neg (by rw [inB_iff]; dsimp only; omega)]
      exact rfl
    · have c2:¬ (-16777216 ≤ v_1 ∧ v_1 ≤ 16777216):=by rw [← wi_iff]; simpa using c2
      rw [if_neg (by rw [inB_iff]; dsimp only; omega)]
      exact rfl
    · have c3:¬ (-16777216 ≤ v_2 ∧ v_2 ≤ 16777216):=by rw [← wi_iff]; simpa using c3
      rw [if_neg (by rw [inB_iff]; dsimp only; omega)]
      exact rfl
    · have c1:(-16777216 ≤ v_0 ∧ v_0 ≤ 16777216):=by rw [← wi_iff]; simpa using c1
      have c2:(-16777216 ≤ v_1 ∧ v_1 ≤ 16777216):=by rw [← wi_iff]; simpa using c2
      have c3:(-16777216 ≤ v_2 ∧ v_2 ≤ 16777216):=by rw [← wi_iff]; simpa using c3
      have h:inB (v_0,v_1,v_2) 16777216 = true:=by rw [inB_iff]; dsimp only; omega
      obtain ⟨e1,e2,e3⟩:=hin h
      rw [if_pos h,e1]
      exact ⟨⟨e2,e3⟩,rfl⟩)
theorem shr32u (a:Int):shrI .u64 a 32 = a / 4294967296:=by
  show a.fdiv 4294967296 = a / 4294967296
  rw [Int.fdiv_eq_ediv_of_nonneg a (by decide)]
theorem maskN (a:Nat) (ha:a < 18446744073709551616):bits .and .u64 (a:Int) 4294967295 = ((a % 4294967296:Nat):Int):=by
  have h:=bits_and_u64_nat a 4294967295 ha (by omega)
  have e:a &&& 4294967295 = a % 4294967296:=Nat.and_two_pow_sub_one_eq_mod a 32
  rw [e] at h
  exact h
theorem divN (a:Nat):(a:Int) / 4294967296 = ((a / 4294967296:Nat):Int):=by omega
theorem mulN (a b:Nat):(a:Int) * (b:Int) = ((a * b:Nat):Int):=(Int.natCast_mul a b).symm
theorem addN (a b:Nat):(a:Int) + (b:Int) = ((a + b:Nat):Int):=(Int.natCast_add a b).symm
theorem wrapN (a:Nat) (ha:a < 18446744073709551616):IntKind.u64.wrap (a:Int) = (a:Int):=by rw [IntKind.wrap_u64]; omega
theorem wrapM (a:Nat):IntKind.u64.wrap (a:Int) = ((a % 18446744073709551616:Nat):Int):=by rw [IntKind.wrap_u64]; omega
theorem divN64 (a:Nat):(a:Int) / 18446744073709551616 = ((a / 18446744073709551616:Nat):Int):=by omega
theorem modN64 (a:Nat):(a:Int) % 18446744073709551616 = ((a % 18446744073709551616:Nat):Int):=by omega
theorem T_Mul64 (x y:Int):fnTree (P:=P) [] (lpOf []) Tryz.f117 (encL 0 [.val (.int .u64),.val (.int .u64)] (x,y,())) =
  Tree.need ((0:Int) ≤ (32:Int)) (.need ((0:Int) ≤ (32:Int)) (.need ((0:Int) ≤ (32:Int)) (.need ((0:Int) ≤ (32:Int)) (.need ((0:Int) ≤ (32:Int)) (.leaf (SV.tup [SV.int IntKind.u64 (IntKind.u64.wrap (IntKind.u64.wrap (IntKind.u64.wrap (shrI IntKind.u64 x (32:Int) * shrI IntKind.u64 y (32:Int)) + shrI IntKind.u64 (IntKind.u64.wrap (IntKind.u64.wrap (shrI IntKind.u64 x (32:Int) * bits BinOp.and IntKind.u64 y (4294967295:Int)) + shrI IntKind.u64 (IntKind.u64.wrap (bits BinOp.and IntKind.u64 x (4294967295:Int) * bits BinOp.and IntKind.u64 y (4294967295:Int))) (32:Int))) (32:Int)) + shrI IntKind.u64 (IntKind.u64.wrap (bits BinOp.and IntKind.u64 (IntKind.u64.wrap (IntKind.u64.wrap (shrI IntKind.u64 x (32:Int) * bits BinOp.and IntKind.u64 y (4294967295:Int)) + shrI IntKind.u64 (IntKind.u64.wrap (bits BinOp.and IntKind.u64 x (4294967295:Int) * bits BinOp.and IntKind.u64 y (4294967295:Int))) (32:Int))) (4294967295:Int) + IntKind.u64.wrap (bits BinOp.and IntKind.u64 x (4294967295:Int) * shrI IntKind.u64 y (32:Int)))) (32:Int))),SV.int IntKind.u64 (IntKind.u64.wrap (x * y))])))))):=by kernel_rfl
def c_Mul64:PC P:=PC.of (α:=Int × Int × Unit) 117 [.val (.int .u64),.val (.int .u64)] (fun x => x) (fun x => x) (fun _ => rfl)
  (fun x => some (0 ≤ x.1 ∧ x.1 < 18446744073709551616 ∧ 0 ≤ x.2.1 ∧ x.2.1 < 18446744073709551616))
  (fun x => .tup [.int .u64 (x.1 * x.2.1 / 18446744073709551616),.int .u64 (x.1 * x.2.1 % 18446744073709551616)]) (by kernel_rfl) (by
    rintro ⟨x,y,⟨⟩⟩ hp
    refine fn_of hm (by kernel_rfl) (by kernel_rfl) (T_Mul64 x y) trivial ?_
    try dsimp only at hp
    try dsimp only
    obtain ⟨h0,h1,h2,h3⟩ : 0 ≤ x ∧ x < 18446744073709551616 ∧ 0 ≤ y ∧ y < 18446744073709551616:=hp
    obtain ⟨X,rfl⟩:=Int.eq_ofNat_of_zero_le h0
    obtain ⟨Y,rfl⟩:=Int.eq_ofNat_of_zero_le h2
    have hx:X < 18446744073709551616:=by omega
    have hy:Y < 18446744073709551616:=by omega
    obtain ⟨bd,bt,bw,hhi⟩:=Lib.mul64_hi X Y hx hy
    have ba:=Lib.half_mul_le (a:=X / 4294967296) (b:=Y / 4294967296) (by omega) (by omega)
    have bb:=Lib.half_mul_le (a:=X / 4294967296) (b:=Y % 4294967296) (by omega) (by omega)
    have bc:=Lib.half_mul_le (a:=X % 4294967296) (b:=Y / 4294967296) (by omega) (by omega)
    have ba' : X / 4294967296 * (Y / 4294967296) < 18446744073709551616:=by omega
    have bb' : X / 4294967296 * (Y % 4294967296) < 18446744073709551616:=by omega
    have bc' : X % 4294967296 * (Y / 4294967296) < 18446744073709551616:=by omega
    have bh1:X / 4294967296 * (Y / 4294967296) + (X / 4294967296 * (Y % 4294967296) + X % 4294967296 * (Y % 4294967296) / 4294967296) / 4294967296 < 18446744073709551616:=by omega
    have bh:X / 4294967296 * (Y / 4294967296) + (X / 4294967296 * (Y % 4294967296) + X % 4294967296 * (Y % 4294967296) / 4294967296) / 4294967296 + ((X / 4294967296 * (Y % 4294967296) + X % 4294967296 * (Y % 4294967296) / 4294967296) % 4294967296 + X % 4294967296 * (Y / 4294967296)) / 4294967296 < 18446744073709551616:=by omega
    refine ⟨by decide,by decide,by decide,by decide,by decide,?_⟩
    show SV.tup _ = SV.tup [.int .u64 ((X:Int) * (Y:Int) / 18446744073709551616),.int .u64 ((X:Int) * (Y:Int) % 18446744073709551616)]
    simp only [shr32u,maskN X hx,maskN Y hy,divN,mulN,addN,wrapN _ bd,wrapN _ bb',wrapN _ bt,maskN _ bt,wrapN _ bc',wrapN _ bw,wrapN _ ba',wrapN _ bh1,wrapN _ bh,wrapM (X * Y),divN64,modN64]
    rw [hhi])
def collapse {β:Type}:Tree β → Tree β
  | .leaf b => .leaf b
  | .cond c t e => bif c then collapse t else collapse e
  | .need p t => .need p (collapse t)
  | .fail n => .fail n
theorem collapse_holds {β:Type} {Q:β → Prop}:∀ {t:Tree β},(collapse t).holds Q → t.holds Q
  | .leaf b,h => h
  | .cond true t e,h => ⟨fun _ => collapse_holds (t:=t) h,fun k => (by cases k)⟩
  | .cond false t e,h => ⟨fun k => (by cases k),fun _ => collapse_holds (t:=e) h⟩
  | .need p t,h => ⟨h.1,collapse_holds h.2⟩
  | .fail n,h => h
theorem fn_closed {cx:List (GC P)} {lps:List (Nat × LRun)} {f:FuncId} {fn:Func} (hf:P.funcs[f]? = some fn) {args:List SV} {res:SV} (hn:nodupB ((loopsOf 0 (bodyOf fn)).map (·.1)) = true)
    {T:Tree SV} (ht:collapse (fnTree cx (lpOf lps) fn args) = T) (hl:AllK P [] fn.ntmps none noU (bodyOf fn) lps) (h:T.holds fun s => s = res):FnOk P f args res :=
  fn_of hm hf hn rfl hl (collapse_holds (by rw [ht]; exact h))
def c_Len64:PC P:=PC.of (α:=Int × Unit) 130 [.val (.int .u64)] (fun x => x) (fun x => x) (fun _ => rfl) (fun x => some (x.1 = 1000000000)) (fun _ => .int .i64 30) (by kernel_rfl)
  (by
    rintro ⟨n,⟨⟩⟩ hp
    obtain rfl:n = 1000000000:=hp
    exact fn_closed (fn:=Tryz.f130) (cx:=[]) (lps:=[]) (by kernel_rfl) (by kernel_rfl) (T:=.need ((0:Int) ≤ 16) (.need ((0:Int) ≤ 8) (.need ((0:Int) ≤ 59 ∧ (59:Int) < 256) (.leaf (.int .i64 30))))) (by kernel_rfl) trivial ⟨by decide,by decide,by decide,rfl⟩)
theorem T_Lead64 (x:Int):fnTree (P:=P) [c_Len64.gc] (lpOf []) Tryz.f129 (encL 0 [.val (.int .u64)] (x,())) =
  Tree.need (x = (1000000000:Int)) (.leaf (SV.int IntKind.i64 (IntKind.i64.wrap ((64:Int) - (30:Int))))):=by kernel_rfl
def c_Lead64:PC P:=PC.of (α:=Int × Unit) 129 [.val (.int .u64)] (fun x => x) (fun x => x) (fun _ => rfl)
  (fun x => some (x.1 = 1000000000))
  (fun x => .int .i64 34) (by kernel_rfl) (by
    rintro ⟨x,⟨⟩⟩ hp
    refine fn_of hm (by kernel_rfl) (by kernel_rfl) (T_Lead64 x) trivial ?_
    try dsimp only at hp
    try dsimp only
    exact ⟨hp,rfl⟩)
theorem U_eq (n:Int):IntKind.wrap .u64 n = n % 18446744073709551616:=by rw [IntKind.wrap_u64]
theorem e34:IntKind.wrap .u64 34 = 34:=by kernel_rfl
theorem e30:IntKind.wrap .u64 (64 - 34) = 30:=by kernel_rfl
theorem eY:shlI .u64 1000000000 34 = 17179869184000000000:=by kernel_rfl
theorem eY0:bits .and .u64 17179869184000000000 4294967295 = 0:=by kernel_rfl
theorem shl34 (a:Int):shlI .u64 a 34 = a * 17179869184 % 18446744073709551616:=by
  show IntKind.wrap .u64 (a * 17179869184) = _
  rw [U_eq]
theorem shr30u (a:Int):shrI .u64 a 30 = a / 1073741824:=by
  show a.fdiv 1073741824 = _
  rw [Int.fdiv_eq_ediv_of_nonneg a (by decide)]
theorem shr34u (a:Int):shrI .u64 a 34 = a / 17179869184:=by
  show a.fdiv 17179869184 = _
  rw [Int.fdiv_eq_ediv_of_nonneg a (by decide)]
theorem maskI {a:Int} (h0:0 ≤ a) (h1:a < 18446744073709551616):bits .and .u64 a 4294967295 = a % 4294967296:=by
  obtain ⟨A,rfl⟩:=Int.eq_ofNat_of_zero_le h0
  rw [maskN A (by omega)]; omega
theorem orI {a b:Int} (h0:0 ≤ a) (h1:a < 1073741824) (h2:0 ≤ b) (h3:b < 17179869184):bits .or .u64 (a * 17179869184) b = a * 17179869184 + b:=by
  obtain ⟨A,rfl⟩:=Int.eq_ofNat_of_zero_le h0
  obtain ⟨B,rfl⟩:=Int.eq_ofNat_of_zero_le h2
  have e1:((A:Int) * 17179869184) = ((A * 17179869184:Nat):Int):=by omega
  have hor:2 ^ 34 * A + B = 2 ^ 34 * A ||| B:=Nat.two_pow_add_eq_or_of_lt (by omega) A
  rw [e1,bits_or_u64_nat _ _ (by omega) (by omega)]
  rw [show A * 17179869184 = 2 ^ 34 * A by omega,← hor]
  omega
def L_Div0:Lay:={ slots:=[(2,.val (.int .u64)),(8,.val (.int .u64)),(9,.val (.int .u64)),(10,.val (.int .u64)),(11,.val (.int .u64)),(13,.val (.int .u64)),(14,.val (.int .u64)),(15,.val (.int .u64)),(16,.val (.int .u64))] }
def L_Div0_0:Lay:={ slots:=[(2,.val (.int .u64)),(8,.val (.int .u64)),(9,.val (.int .u64)),(10,.val (.int .u64)),(11,.val (.int .u64)),(13,.val (.int .u64)),(14,.val (.int .u64)),(15,.val (.int .u64))] }
def X_Div0:Exit → St → Option Lay
  | .exit 0,_ => some L_Div0_0
  | _,_ => none
abbrev C_Div0:Code:=loopC (bodyOf Tryz.f127) 0
theorem B_Div0 (y s y1 y0 u32 u1 u0 q1 rh:Int):loopBodyA (P:=P) [] (lpOf []) [] 135 noU (inner C_Div0) L_Div0 X_Div0 (α:=Int × Int × Int × Int × Int × Int × Int × Int × Int × Unit) (fun x => x) (fun x => x) (y,s,y1,y0,u32,u1,u0,q1,rh,()) =
  Tree.cond (decide (q1 ≥ (4294967296:Int))) (.cond (decide (IntKind.u64.wrap (rh + y1) ≥ (4294967296:Int))) (.leaf (Sum.inr (Exit.exit (0:Nat),Lay.st L_Div0_0 noU (y,s,y1,y0,u32,u1,u0,IntKind.u64.wrap (q1 - (1:Int)),())))) (.leaf (Sum.inl (y,s,y1,y0,u32,u1,u0,IntKind.u64.wrap (q1 - (1:Int)),IntKind.u64.wrap (rh + y1),())))) (.cond (decide (IntKind.u64.wrap (q1 * y0) > IntKind.u64.wrap (IntKind.u64.wrap ((4294967296:Int) * rh) + u1))) (.cond (decide (IntKind.u64.wrap (rh + y1) ≥ (4294967296:Int))) (.leaf (Sum.inr (Exit.exit (0:Nat),Lay.st L_Div0_0 noU (y,s,y1,y0,u32,u1,u0,IntKind.u64.wrap (q1 - (1:Int)),())))) (.leaf (Sum.inl (y,s,y1,y0,u32,u1,u0,IntKind.u64.wrap (q1 - (1:Int)),IntKind.u64.wrap (rh + y1),())))) (.leaf (Sum.inr (Exit.exit (0:Nat),Lay.st L_Div0_0 noU (y,s,y1,y0,u32,u1,u0,q1,()))))):=by kernel_rfl
def inv_Div0:Int × Int × Int × Int × Int × Int × Int × Int × Int × Unit → Prop:=fun (y,s,y1,y0,u32,u1,u0,q1,rh,()) => y0 = 0 ∧ 0 ≤ q1 ∧ q1 < 4294967296
def O_Div0:Int × Int × Int × Int × Int × Int × Int × Int × Int × Unit → Tree (Exit × St):=fun (y,s,y1,y0,u32,u1,u0,q1,rh,()) => (.leaf (.exit 0,L_Div0_0.st noU (y,s,y1,y0,u32,u1,u0,q1,())))
def R_Div0:LRun:=runOf 135 L_Div0 (fun x => x) (inv_Div0) (O_Div0)
theorem K_Div0:LoopOk P [] 135 none noU C_Div0 (R_Div0):=by
  refine loop_of hm (cx:=[]) [] (xl:=X_Div0) (α:=Int × Int × Int × Int × Int × Int × Int × Int × Int × Unit) (fun x => x) (fun (y,s,y1,y0,u32,u1,u0,q1,rh,()) => 0) (fun _ => rfl) (by kernel_rfl) (by kernel_rfl) ?_ (by kernel_rfl) trivial ?_
  · intro e S L' h
    unfold X_Div0 at h
    split at h <;> first | (cases h; done) | (cases h; kernel_rfl) | (rcases bif_some h with h | h <;> cases h <;> kernel_rfl)
  · rintro ⟨y,s,y1,y0,u32,u1,u0,q1,rh,⟨⟩⟩ hinv Q hQ
    refine hold_of_eq (B_Div0 y s y1 y0 u32 u1 u0 q1 rh) ?_
    obtain ⟨h0,h1,h2⟩:=hinv
    refine ⟨fun c => absurd (of_decide_eq_true c) (by omega),fun _ => ⟨fun c => ?_,fun _ => hQ⟩⟩
    have c:=of_decide_eq_true c
    have hw:∀ n,0 ≤ IntKind.wrap .u64 n:=fun n => by rw [IntKind.wrap_u64]; omega
    have hz:IntKind.wrap .u64 (q1 * y0) = 0:=by rw [h0,Int.mul_zero]; rfl
    rw [hz] at c
    exact absurd c (by have:=hw (IntKind.u64.wrap (4294967296 * rh) + u1); omega)
def L_Div2:Lay:={ slots:=[(2,.val (.int .u64)),(8,.val (.int .u64)),(9,.val (.int .u64)),(10,.val (.int .u64)),(14,.val (.int .u64)),(15,.val (.int .u64)),(16,.val (.int .u64)),(17,.val (.int .u64)),(18,.val (.int .u64))] }
def L_Div2_0:Lay:={ slots:=[(2,.val (.int .u64)),(8,.val (.int .u64)),(14,.val (.int .u64)),(15,.val (.int .u64)),(17,.val (.int .u64)),(18,.val (.int .u64))] }
def X_Div2:Exit → St → Option Lay
  | .exit 2,_ => some L_Div2_0
  | _,_ => none
abbrev C_Div2:Code:=loopC (bodyOf Tryz.f127) 2
theorem B_Div2 (y s y1 y0 u0 q1 rh u21 q0:Int):loopBodyA (P:=P) [] (lpOf []) [] 135 noU (inner C_Div2) L_Div2 X_Div2 (α:=Int × Int × Int × Int × Int × Int × Int × Int × Int × Unit) (fun x => x) (fun x => x) (y,s,y1,y0,u0,q1,rh,u21,q0,()) =
  Tree.cond (decide (q0 ≥ (4294967296:Int))) (.cond (decide (IntKind.u64.wrap (rh + y1) ≥ (4294967296:Int))) (.leaf (Sum.inr (Exit.exit (2:Nat),Lay.st L_Div2_0 noU (y,s,u0,q1,u21,IntKind.u64.wrap (q0 - (1:Int)),())))) (.leaf (Sum.inl (y,s,y1,y0,u0,q1,IntKind.u64.wrap (rh + y1),u21,IntKind.u64.wrap (q0 - (1:Int)),())))) (.cond (decide (IntKind.u64.wrap (q0 * y0) > IntKind.u64.wrap (IntKind.u64.wrap ((4294967296:Int) * rh) + u0))) (.cond (decide (IntKind.u64.wrap (rh + y1) ≥ (4294967296:Int))) (.leaf (Sum.inr (Exit.exit (2:Nat),Lay.st L_Div2_0 noU (y,s,u0,q1,u21,IntKind.u64.wrap (q0 - (1:Int)),())))) (.leaf (Sum.inl (y,s,y1,y0,u0,q1,IntKind.u64.wrap (rh + y1),u21,IntKind.u64.wrap (q0 - (1:Int)),())))) (.leaf (Sum.inr (Exit.exit (2:Nat),Lay.st L_Div2_0 noU (y,s,u0,q1,u21,q0,()))))):=by kernel_rfl
def inv_Div2:Int × Int × Int × Int × Int × Int × Int × Int × Int × Unit → Prop:=fun (y,s,y1,y0,u0,q1,rh,u21,q0,()) => y0 = 0 ∧ 0 ≤ q0 ∧ q0 < 4294967296
def O_Div2:Int × Int × Int × Int × Int × Int × Int × Int × Int × Unit → Tree (Exit × St):=fun (y,s,y1,y0,u0,q1,rh,u21,q0,()) => (.leaf (.exit 2,L_Div2_0.st noU (y,s,u0,q1,u21,q0,())))
def R_Div2:LRun:=runOf 135 L_Div2 (fun x => x) (inv_Div2) (O_Div2)
theorem K_Div2:LoopOk P [] 135 none noU C_Div2 (R_Div2):=by
  refine loop_of hm (cx:=[]) [] (xl:=X_Div2) (α:=Int × Int × Int × Int × Int × Int × Int × Int × Int × Unit) (fun x => x) (fun (y,s,y1,y0,u0,q1,rh,u21,q0,()) => 0) (fun _ => rfl) (by kernel_rfl) (by kernel_rfl) ?_ (by kernel_rfl) trivial ?_
  · intro e S L' h
    unfold X_Div2 at h
    split at h <;> first | (cases h; done) | (cases h; kernel_rfl) | (rcases bif_some h with h | h <;> cases h <;> kernel_rfl)
  · rintro ⟨y,s,y1,y0,u0,q1,rh,u21,q0,⟨⟩⟩ hinv Q hQ
    refine hold_of_eq (B_Div2 y s y1 y0 u0 q1 rh u21 q0) ?_
    obtain ⟨h0,h1,h2⟩:=hinv
    refine ⟨fun c => absurd (of_decide_eq_true c) (by omega),fun _ => ⟨fun c => ?_,fun _ => hQ⟩⟩
    have c:=of_decide_eq_true c
    have hw:∀ n,0 ≤ IntKind.wrap .u64 n:=fun n => by rw [IntKind.wrap_u64]; omega
    have hz:IntKind.wrap .u64 (q0 * y0) = 0:=by rw [h0,Int.mul_zero]; rfl
    rw [hz] at c
    exact absurd c (by have:=hw (IntKind.u64.wrap (4294967296 * rh) + u0); omega)
theorem T_Div64 (h l y:Int) (x2_:Int) (hx2_:x2_ = (IntKind.u64.wrap (34:Int))) (x3_:Int) (hx3_:x3_ = (IntKind.u64.wrap ((64:Int) - IntKind.u64.wrap (34:Int)))) (x1_:Int) (hx1_:x1_ = (IntKind.u64.wrap (IntKind.u64.wrap (IntKind.u64.wrap (bits BinOp.or IntKind.u64 (shlI IntKind.u64 h x2_) (shrI IntKind.u64 l x3_) * (4294967296:Int)) + shrI IntKind.u64 (shlI IntKind.u64 l x2_) (32:Int)) - IntKind.u64.wrap (IntKind.u64.wrap (Int.tdiv (bits BinOp.or IntKind.u64 (shlI IntKind.u64 h x2_) (shrI IntKind.u64 l x3_)) (shrI IntKind.u64 (shlI IntKind.u64 y x2_) (32:Int))) * shlI IntKind.u64 y x2_)))):fnTree (P:=P) [c_Lead64.gc] (lpOf [(0,R_Div0),(2,R_Div2)]) Tryz.f127 (encL 0 [.val (.int .u64),.val (.int .u64),.val (.int .u64)] (h,l,y,())) =
  Tree.cond (y == (0:Int)) (Tree.fail (1021:Nat)) (.cond (decide (y ≤ h)) (Tree.fail (1025:Nat)) (.cond (h == (0:Int)) (.need (y ≠ (0:Int)) (.need (y ≠ (0:Int)) (.leaf (SV.tup [SV.int IntKind.u64 (IntKind.u64.wrap (Int.tdiv l y)),SV.int IntKind.u64 (Int.tmod l y)])))) (.need (y = (1000000000:Int)) (.need ((0:Int) ≤ IntKind.u64.wrap (34:Int)) (.need ((0:Int) ≤ (32:Int)) (.need ((0:Int) ≤ IntKind.u64.wrap (34:Int)) (.need ((0:Int) ≤ IntKind.u64.wrap ((64:Int) - IntKind.u64.wrap (34:Int))) (.need ((0:Int) ≤ IntKind.u64.wrap (34:Int)) (.need ((0:Int) ≤ (32:Int)) (.need (shrI IntKind.u64 (shlI IntKind.u64 y x2_) (32:Int) ≠ (0:Int)) (.need (inv_Div0 (shlI IntKind.u64 y x2_,IntKind.u64.wrap (34:Int),shrI IntKind.u64 (shlI IntKind.u64 y x2_) (32:Int),bits BinOp.and IntKind.u64 (shlI IntKind.u64 y x2_) (4294967295:Int),bits BinOp.or IntKind.u64 (shlI IntKind.u64 h x2_) (shrI IntKind.u64 l x3_),shrI IntKind.u64 (shlI IntKind.u64 l x2_) (32:Int),bits BinOp.and IntKind.u64 (shlI IntKind.u64 l x2_) (4294967295:Int),IntKind.u64.wrap (Int.tdiv (bits BinOp.or IntKind.u64 (shlI IntKind.u64 h x2_) (shrI IntKind.u64 l x3_)) (shrI IntKind.u64 (shlI IntKind.u64 y x2_) (32:Int))),IntKind.u64.wrap (bits BinOp.or IntKind.u64 (shlI IntKind.u64 h x2_) (shrI IntKind.u64 l x3_) - IntKind.u64.wrap (IntKind.u64.wrap (Int.tdiv (bits BinOp.or IntKind.u64 (shlI IntKind.u64 h x2_) (shrI IntKind.u64 l x3_)) (shrI IntKind.u64 (shlI IntKind.u64 y x2_) (32:Int))) * shrI IntKind.u64 (shlI IntKind.u64 y x2_) (32:Int))),())) (.need (shrI IntKind.u64 (shlI IntKind.u64 y x2_) (32:Int) ≠ (0:Int)) (.need (inv_Div2 (shlI IntKind.u64 y x2_,IntKind.u64.wrap (34:Int),shrI IntKind.u64 (shlI IntKind.u64 y x2_) (32:Int),bits BinOp.and IntKind.u64 (shlI IntKind.u64 y x2_) (4294967295:Int),bits BinOp.and IntKind.u64 (shlI IntKind.u64 l x2_) (4294967295:Int),IntKind.u64.wrap (Int.tdiv (bits BinOp.or IntKind.u64 (shlI IntKind.u64 h x2_) (shrI IntKind.u64 l x3_)) (shrI IntKind.u64 (shlI IntKind.u64 y x2_) (32:Int))),IntKind.u64.wrap (IntKind.u64.wrap (IntKind.u64.wrap (IntKind.u64.wrap (bits BinOp.or IntKind.u64 (shlI IntKind.u64 h x2_) (shrI IntKind.u64 l x3_) * (4294967296:Int)) + shrI IntKind.u64 (shlI IntKind.u64 l x2_) (32:Int)) - IntKind.u64.wrap (IntKind.u64.wrap (Int.tdiv (bits BinOp.or IntKind.u64 (shlI IntKind.u64 h x2_) (shrI IntKind.u64 l x3_)) (shrI IntKind.u64 (shlI IntKind.u64 y x2_) (32:Int))) * shlI IntKind.u64 y x2_)) - IntKind.u64.wrap (IntKind.u64.wrap (Int.tdiv x1_ (shrI IntKind.u64 (shlI IntKind.u64 y x2_) (32:Int))) * shrI IntKind.u64 (shlI IntKind.u64 y x2_) (32:Int))),IntKind.u64.wrap (IntKind.u64.wrap (IntKind.u64.wrap (bits BinOp.or IntKind.u64 (shlI IntKind.u64 h x2_) (shrI IntKind.u64 l x3_) * (4294967296:Int)) + shrI IntKind.u64 (shlI IntKind.u64 l x2_) (32:Int)) - IntKind.u64.wrap (IntKind.u64.wrap (Int.tdiv (bits BinOp.or IntKind.u64 (shlI IntKind.u64 h x2_) (shrI IntKind.u64 l x3_)) (shrI IntKind.u64 (shlI IntKind.u64 y x2_) (32:Int))) * shlI IntKind.u64 y x2_)),IntKind.u64.wrap (Int.tdiv x1_ (shrI IntKind.u64 (shlI IntKind.u64 y x2_) (32:Int))),())) (.need ((0:Int) ≤ IntKind.u64.wrap (34:Int)) (.leaf (SV.tup [SV.int IntKind.u64 (IntKind.u64.wrap (IntKind.u64.wrap (IntKind.u64.wrap (Int.tdiv (bits BinOp.or IntKind.u64 (shlI IntKind.u64 h x2_) (shrI IntKind.u64 l x3_)) (shrI IntKind.u64 (shlI IntKind.u64 y x2_) (32:Int))) * (4294967296:Int)) + IntKind.u64.wrap (Int.tdiv x1_ (shrI IntKind.u64 (shlI IntKind.u64 y x2_) (32:Int))))),SV.int IntKind.u64 (shrI IntKind.u64 (IntKind.u64.wrap (IntKind.u64.wrap (IntKind.u64.wrap (IntKind.u64.wrap (IntKind.u64.wrap (IntKind.u64.wrap (bits BinOp.or IntKind.u64 (shlI IntKind.u64 h x2_) (shrI IntKind.u64 l x3_) * (4294967296:Int)) + shrI IntKind.u64 (shlI IntKind.u64 l x2_) (32:Int)) - IntKind.u64.wrap (IntKind.u64.wrap (Int.tdiv (bits BinOp.or IntKind.u64 (shlI IntKind.u64 h x2_) (shrI IntKind.u64 l x3_)) (shrI IntKind.u64 (shlI IntKind.u64 y x2_) (32:Int))) * shlI IntKind.u64 y x2_)) * (4294967296:Int)) + bits BinOp.and IntKind.u64 (shlI IntKind.u64 l x2_) (4294967295:Int)) - IntKind.u64.wrap (IntKind.u64.wrap (Int.tdiv x1_ (shrI IntKind.u64 (shlI IntKind.u64 y x2_) (32:Int))) * shlI IntKind.u64 y x2_))) x2_)])))))))))))))))):=by
  subst hx1_; subst hx3_; subst hx2_; kernel_rfl
def c_Div64:PC P:=PC.of (α:=Int × Int × Int × Unit) 127 [.val (.int .u64),.val (.int .u64),.val (.int .u64)] (fun x => x) (fun x => x) (fun _ => rfl)
  (fun x => some (0 ≤ x.1 ∧ x.1 < 65536 ∧ 0 ≤ x.2.1 ∧ x.2.1 < 18446744073709551616 ∧ x.2.2.1 = 1000000000))
  (fun x => .tup [.int .u64 ((x.1 * 18446744073709551616 + x.2.1) / 1000000000),.int .u64 ((x.1 * 18446744073709551616 + x.2.1) % 1000000000)]) (by kernel_rfl) (by
    rintro ⟨h,l,y,⟨⟩⟩ hp
    refine fn_of hm (by kernel_rfl) (by kernel_rfl) (T_Div64 h l y _ rfl _ rfl _ rfl) ⟨K_Div0,K_Div2,trivial⟩ ?_
    try dsimp only at hp
    try dsimp only
    obtain ⟨h0,h1,h2,h3,rfl⟩ : 0 ≤ h ∧ h < 65536 ∧ 0 ≤ l ∧ l < 18446744073709551616 ∧ y = 1000000000:=hp
    have f1:shlI .u64 h 34 = h * 17179869184:=by rw [shl34]; omega
    have f2:bits .or .u64 (h * 17179869184) (l / 1073741824) = h * 17179869184 + l / 1073741824:=orI h0 (by omega) (by omega) (by omega)
    have f3:bits .and .u64 (l * 17179869184 % 18446744073709551616) 4294967295 = 0:=by rw [maskI (by omega) (by omega)]; omega
    rw [Int.tdiv_eq_ediv_of_nonneg h2,Int.tmod_eq_emod_of_nonneg h2]
    simp only [e34,e30,eY,eY0,f1,shl34 l,shr30u,shr34u,shr32u,f2,f3,show (17179869184000000000:Int) / 4294967296 = 4000000000 by decide]
    have hx:l * 17179869184 % 18446744073709551616 / 4294967296 = 4 * (l % 1073741824):=by omega
    rw [hx]
    obtain ⟨u,hu⟩ : ∃ u,u = h * 17179869184 + l / 1073741824:=⟨_,rfl⟩
    rw [← hu]
    have g0:Int.tdiv u 4000000000 = u / 4000000000:=Int.tdiv_eq_ediv_of_nonneg (by omega)
    have g1:IntKind.wrap .u64 (u / 4000000000) = u / 4000000000:=by rw [U_eq]; omega
    rw [g0,g1]
    obtain ⟨z,hz⟩ : ∃ z,z = u % 4000000000 * 4294967296 + 4 * (l % 1073741824):=⟨_,rfl⟩
    have g2:IntKind.wrap .u64 (IntKind.wrap .u64 (IntKind.wrap .u64 (u * 4294967296) + 4 * (l % 1073741824)) - IntKind.wrap .u64 (u / 4000000000 * 17179869184000000000)) = z:=by
      simp only [U_eq]; omega
    rw [g2]
    have g3:Int.tdiv z 4000000000 = z / 4000000000:=Int.tdiv_eq_ediv_of_nonneg (by omega)
    have g4:IntKind.wrap .u64 (z / 4000000000) = z / 4000000000:=by rw [U_eq]; omega
    rw [g3,g4]
    have g5:IntKind.wrap .u64 (IntKind.wrap .u64 (u / 4000000000 * 4294967296) + z / 4000000000) = (h * 18446744073709551616 + l) / 1000000000:=by
      simp only [U_eq]; omega
    have g6:IntKind.wrap .u64 (IntKind.wrap .u64 (IntKind.wrap .u64 (z * 4294967296) + 0) - IntKind.wrap .u64 (z / 4000000000 * 17179869184000000000)) / 17179869184 = (h * 18446744073709551616 + l) % 1000000000:=by
      simp only [U_eq]; omega
    rw [g5,g6]
    refine ⟨fun c => (by cases c),fun _ => ⟨fun c => absurd (of_decide_eq_true c) (by omega),fun _ => ⟨fun c => ⟨by decide,by decide,?_⟩,fun c => ⟨trivial,by decide,by decide,by decide,by decide,by decide,by decide,by decide,⟨rfl,by omega,by omega⟩,by decide,⟨rfl,by omega,by omega⟩,by decide,rfl⟩⟩⟩⟩
    have c:h = 0:=eq_of_beq c
    subst c
    show SV.tup _ = SV.tup _
    rw [U_eq,show l / 1000000000 % 18446744073709551616 = (0 * 18446744073709551616 + l) / 1000000000 by omega,show l % 1000000000 = (0 * 18446744073709551616 + l) % 1000000000 by omega])
theorem T_down (a b:Int):fnTree (P:=P) [] (lpOf []) Tryz.f51 (encL 0 [.val tI,.val tI] (a,b,())) =
  Tree.need (b ≠ (0:Int)) (.need (b ≠ (0:Int)) (.cond (decide (Int.tmod a b < (0:Int))) (.leaf (SV.int IntKind.i64 (IntKind.i64.wrap (IntKind.i64.wrap (Int.tdiv a b) - (1:Int))))) (.leaf (SV.int IntKind.i64 (IntKind.i64.wrap (Int.tdiv a b)))))):=by kernel_rfl
def c_down:PC P:=PC.of (α:=Int × Int × Unit) 51 [.val tI,.val tI] (fun x => x) (fun x => x) (fun _ => rfl)
  (fun x => some (0 < x.2.1 ∧ -9223372036854775808 < x.1 ∧ x.1 ≤ 9223372036854775807))
  (fun x => .int .i64 (x.1 / x.2.1)) (by kernel_rfl) (by
    rintro ⟨a,b,⟨⟩⟩ hp
    refine fn_of hm (by kernel_rfl) (by kernel_rfl) (T_down a b) trivial ?_
    try dsimp only at hp
    try dsimp only
    obtain ⟨h0,h1,h2⟩ : 0 < b ∧ -9223372036854775808 < a ∧ a ≤ 9223372036854775807:=hp
    have e:=floorW_eq h0 h1 h2
    unfold floorW at e
    refine ⟨by omega,by omega,fun c => ?_,fun c => ?_⟩
    · rw [if_pos (of_decide_eq_true c)] at e
      exact congrArg (SV.int .i64) e
    · rw [if_neg (of_decide_eq_false c)] at e
      exact congrArg (SV.int .i64) e)
theorem T_up (a b:Int):fnTree (P:=P) [c_down.gc] (lpOf []) Tryz.f90 (encL 0 [.val tI,.val tI] (a,b,())) =
  Tree.need ((0:Int) < b ∧ (-9223372036854775808:Int) < IntKind.i64.wrap ((0:Int) - a) ∧ IntKind.i64.wrap ((0:Int) - a) ≤ (9223372036854775807:Int)) (.leaf (SV.int IntKind.i64 (IntKind.i64.wrap ((0:Int) - IntKind.i64.wrap ((0:Int) - a) / b)))):=by kernel_rfl
def c_up:PC P:=PC.of (α:=Int × Int × Unit) 90 [.val tI,.val tI] (fun x => x) (fun x => x) (fun _ => rfl)
  (fun x => some (0 < x.2.1 ∧ -9223372036854775808 < x.1 ∧ x.1 < 9223372036854775807))
  (fun x => .int .i64 (upS x.1 x.2.1)) (by kernel_rfl) (by
    rintro ⟨a,b,⟨⟩⟩ hp
    refine fn_of hm (by kernel_rfl) (by kernel_rfl) (T_up a b) trivial ?_
    try dsimp only at hp
    try dsimp only
    obtain ⟨h0,h1,h2⟩ : 0 < b ∧ -9223372036854775808 < a ∧ a < 9223372036854775807:=hp
    have h3:=div_rng (x:=-a) (M:=9223372036854775807) h0 (by decide) (by omega) (by omega)
    rw [W_id (n:=0 - a) (by omega) (by omega),Int.zero_sub,W_id (n:=0 - -a / b) (by omega) (by omega),Int.zero_sub]
    exact ⟨⟨h0,by omega,by omega⟩,rfl⟩)
theorem T_absP (n:Int):fnTree (P:=P) [] (lpOf []) Tryz.f108 (encL 0 [.val tI] (n,())) =
  Tree.leaf (SV.int IntKind.i64 (maxI n (IntKind.i64.wrap ((0:Int) - n)))):=by kernel_rfl
def c_absP:PC P:=PC.of (α:=Int × Unit) 108 [.val tI] (fun x => x) (fun x => x) (fun _ => rfl)
  (fun x => some (-9223372036854775808 < x.1 ∧ x.1 ≤ 9223372036854775807))
  (fun x => .int .i64 (absI x.1)) (by kernel_rfl) (by
    rintro ⟨n,⟨⟩⟩ hp
    refine fn_of hm (by kernel_rfl) (by kernel_rfl) (T_absP n) trivial ?_
    try dsimp only at hp
    try dsimp only
    obtain ⟨h0,h1⟩ : -9223372036854775808 < n ∧ n ≤ 9223372036854775807:=hp
    show SV.int _ _ = SV.int _ (absI n)
    unfold absI
    rw [W_id (n:=0 - n) (by omega) (by omega),Int.zero_sub])
theorem T_drag (t m b:Int):fnTree (P:=P) [c_Mul64.gc,c_Div64.gc] (lpOf []) Tryz.f123 (encL 0 [.val tI,.val tI,.val tI] (t,m,b,())) =
  Tree.need ((0:Int) ≤ IntKind.u64.wrap t ∧ IntKind.u64.wrap t < (18446744073709551616:Int) ∧ (0:Int) ≤ IntKind.u64.wrap (IntKind.i64.wrap (m * b)) ∧ IntKind.u64.wrap (IntKind.i64.wrap (m * b)) < (18446744073709551616:Int)) (.need ((0:Int) ≤ IntKind.u64.wrap t * IntKind.u64.wrap (IntKind.i64.wrap (m * b)) / (18446744073709551616:Int) ∧ IntKind.u64.wrap t * IntKind.u64.wrap (IntKind.i64.wrap (m * b)) / (18446744073709551616:Int) < (65536:Int) ∧ (0:Int) ≤ IntKind.u64.wrap t * IntKind.u64.wrap (IntKind.i64.wrap (m * b)) % (18446744073709551616:Int) ∧ IntKind.u64.wrap t * IntKind.u64.wrap (IntKind.i64.wrap (m * b)) % (18446744073709551616:Int) < (18446744073709551616:Int) ∧ (1000000000:Int) = (1000000000:Int)) (.leaf (SV.tup [SV.int IntKind.i64 (IntKind.i64.wrap ((IntKind.u64.wrap t * IntKind.u64.wrap (IntKind.i64.wrap (m * b)) / (18446744073709551616:Int) * (18446744073709551616:Int) + IntKind.u64.wrap t * IntKind.u64.wrap (IntKind.i64.wrap (m * b)) % (18446744073709551616:Int)) / (1000000000:Int))),SV.bool (decide ((IntKind.u64.wrap t * IntKind.u64.wrap (IntKind.i64.wrap (m * b)) / (18446744073709551616:Int) * (18446744073709551616:Int) + IntKind.u64.wrap t * IntKind.u64.wrap (IntKind.i64.wrap (m * b)) % (18446744073709551616:Int)) % (1000000000:Int) > (0:Int)))]))):=by kernel_rfl
def c_drag:PC P:=PC.of (α:=Int × Int × Int × Unit) 123 [.val tI,.val tI,.val tI] (fun x => x) (fun x => x) (fun _ => rfl)
  (fun x => some (0 ≤ x.1 ∧ x.1 ≤ 17592186044416 ∧ 0 ≤ x.2.1 ∧ x.2.1 ≤ 600 ∧ 0 ≤ x.2.2.1 ∧ x.2.2.1 ≤ 2000001))
  (fun x => .tup [.int .i64 (lowS9 x.1 x.2.1 x.2.2.1),.bool (decide (x.1 * (x.2.1 * x.2.2.1) % 1000000000 > 0))]) (by kernel_rfl) (by
    rintro ⟨t,m,b,⟨⟩⟩ hp
    refine fn_of hm (by kernel_rfl) (by kernel_rfl) (T_drag t m b) trivial ?_
    try dsimp only at hp
    try dsimp only
    obtain ⟨h0,h1,h2,h3,h4,h5⟩ : 0 ≤ t ∧ t ≤ 17592186044416 ∧ 0 ≤ m ∧ m ≤ 600 ∧ 0 ≤ b ∧ b ≤ 2000001:=hp
    have k:=mul_rng h2 h3 h4 h5
    have x:=mul_rng h0 h1 k.1 k.2
    have e1:IntKind.wrap .u64 t = t:=by rw [U_eq]; omega
    have e2:IntKind.wrap .u64 (m * b) = m * b:=by rw [U_eq]; omega
    rw [W_id (n:=m * b) (by omega) (by omega),e1,e2]
    unfold lowS9
    generalize t * (m * b) = z at *
    have e3:z / 18446744073709551616 * 18446744073709551616 + z % 18446744073709551616 = z:=by omega
    rw [e3,W_id (n:=z / 1000000000) (by omega) (by omega)]
    exact ⟨⟨h0,by omega,k.1,by omega⟩,⟨by omega,by omega,by omega,by omega,rfl⟩,rfl⟩)
theorem T_lower (t m b:Int):fnTree (P:=P) [c_drag.gc] (lpOf []) Tryz.f107 (encL 0 [.val tI,.val tI,.val tI] (t,m,b,())) =
  Tree.need ((0:Int) ≤ t ∧ t ≤ (17592186044416:Int) ∧ (0:Int) ≤ m ∧ m ≤ (600:Int) ∧ (0:Int) ≤ b ∧ b ≤ (2000001:Int)) (.leaf (SV.int IntKind.i64 (lowS9 t m b))):=by kernel_rfl
def c_lower:PC P:=PC.of (α:=Int × Int × Int × Unit) 107 [.val tI,.val tI,.val tI] (fun x => x) (fun x => x) (fun _ => rfl)
  (fun x => some (0 ≤ x.1 ∧ x.1 ≤ 17592186044416 ∧ 0 ≤ x.2.1 ∧ x.2.1 ≤ 600 ∧ 0 ≤ x.2.2.1 ∧ x.2.2.1 ≤ 2000001))
  (fun x => .int .i64 (lowS9 x.1 x.2.1 x.2.2.1)) (by kernel_rfl) (by
    rintro ⟨t,m,b,⟨⟩⟩ hp
    refine fn_of hm (by kernel_rfl) (by kernel_rfl) (T_lower t m b) trivial ?_
    try dsimp only at hp
    try dsimp only
    exact ⟨hp,rfl⟩)
theorem T_upper (t m b:Int):fnTree (P:=P) [c_drag.gc] (lpOf []) Tryz.f109 (encL 0 [.val tI,.val tI,.val tI] (t,m,b,())) =
  Tree.need ((0:Int) ≤ t ∧ t ≤ (17592186044416:Int) ∧ (0:Int) ≤ m ∧ m ≤ (600:Int) ∧ (0:Int) ≤ b ∧ b ≤ (2000001:Int)) (.cond (decide (t * (m * b) % (1000000000:Int) > (0:Int))) (.leaf (SV.int IntKind.i64 (IntKind.i64.wrap (lowS9 t m b + (1:Int))))) (.leaf (SV.int IntKind.i64 (lowS9 t m b)))):=by kernel_rfl
def c_upper:PC P:=PC.of (α:=Int × Int × Int × Unit) 109 [.val tI,.val tI,.val tI] (fun x => x) (fun x => x) (fun _ => rfl)
  (fun x => some (0 ≤ x.1 ∧ x.1 ≤ 17592186044416 ∧ 0 ≤ x.2.1 ∧ x.2.1 ≤ 600 ∧ 0 ≤ x.2.2.1 ∧ x.2.2.1 ≤ 2000001))
  (fun x => .int .i64 (upS9 x.1 x.2.1 x.2.2.1)) (by kernel_rfl) (by
    rintro ⟨t,m,b,⟨⟩⟩ hp
    refine fn_of hm (by kernel_rfl) (by kernel_rfl) (T_upper t m b) trivial ?_
    try dsimp only at hp
    try dsimp only
    obtain ⟨h0,h1,h2,h3,h4,h5⟩ : 0 ≤ t ∧ t ≤ 17592186044416 ∧ 0 ≤ m ∧ m ≤ 600 ∧ 0 ≤ b ∧ b ≤ 2000001:=hp
    have k:=mul_rng h2 h3 h4 h5
    have x:=mul_rng h0 h1 k.1 k.2
    show Tree.holds (fun s => s = SV.int .i64 (upS9 t m b)) _
    rw [upS9_eq,W_id (n:=lowS9 t m b + 1) (by unfold lowS9; omega) (by unfold lowS9; omega)]
    refine ⟨⟨h0,h1,h2,h3,h4,h5⟩,fun c => ?_,fun c => ?_⟩
    · rw [if_pos (of_decide_eq_true c)]; exact rfl
    · rw [if_neg (of_decide_eq_false c)]; exact rfl)
def cmpS (x y:Int):Int:=if x = y then 0 else if x < y then -1 else 1
def L_Bend1:Lay:={ slots:=[(0,.val tI),(1,.ptr 1 0)],boxes:=[(1,[.val tI,.val tI])] }
theorem T_Bend1 (r a d:Int):mTree (P:=P) [c_Mul64.gc] (lpOf []) Tryz.f116 L_Bend1 true (r,(),a,d,()) =
  Tree.need ((0:Int) ≤ IntKind.u64.wrap (IntKind.i64.wrap (r * r)) ∧ IntKind.u64.wrap (IntKind.i64.wrap (r * r)) < (18446744073709551616:Int) ∧ (0:Int) ≤ IntKind.u64.wrap d ∧ IntKind.u64.wrap d < (18446744073709551616:Int)) (.need ((0:Int) ≤ IntKind.u64.wrap (IntKind.i64.wrap ((2:Int) * a)) ∧ IntKind.u64.wrap (IntKind.i64.wrap ((2:Int) * a)) < (18446744073709551616:Int) ∧ (0:Int) ≤ (1000000000000:Int) ∧ (1000000000000:Int) < (18446744073709551616:Int)) (.cond (IntKind.u64.wrap (IntKind.i64.wrap (r * r)) * IntKind.u64.wrap d / (18446744073709551616:Int) == IntKind.u64.wrap (IntKind.i64.wrap ((2:Int) * a)) * (1000000000000:Int) / (18446744073709551616:Int)) (.cond (IntKind.u64.wrap (IntKind.i64.wrap (r * r)) * IntKind.u64.wrap d % (18446744073709551616:Int) == IntKind.u64.wrap (IntKind.i64.wrap ((2:Int) * a)) * (1000000000000:Int) % (18446744073709551616:Int)) (.leaf { res:=SV.int IntKind.i64 (0:Int),boxes:=[[SV.int IntKind.i64 a,SV.int IntKind.i64 d]] }) (.cond (decide (IntKind.u64.wrap (IntKind.i64.wrap (r * r)) * IntKind.u64.wrap d / (18446744073709551616:Int) < IntKind.u64.wrap (IntKind.i64.wrap ((2:Int) * a)) * (1000000000000:Int) / (18446744073709551616:Int))) (.leaf { res:=SV.int IntKind.i64 (-1:Int),boxes:=[[SV.int IntKind.i64 a,SV.int IntKind.i64 d]] }) (.cond (IntKind.u64.wrap (IntKind.i64.wrap (r * r)) * IntKind.u64.wrap d / (18446744073709551616:Int) == IntKind.u64.wrap (IntKind.i64.wrap ((2:Int) * a)) * (1000000000000:Int) / (18446744073709551616:Int)) (.cond (decide (IntKind.u64.wrap (IntKind.i64.wrap (r * r)) * IntKind.u64.wrap d % (18446744073709551616:Int) < IntKind.u64.wrap (IntKind.i64.wrap ((2:Int) * a)) * (1000000000000:Int) % (18446744073709551616:Int))) (.leaf { res:=SV.int IntKind.i64 (-1:Int),boxes:=[[SV.int IntKind.i64 a,SV.int IntKind.i64 d]] }) (.leaf { res:=SV.int IntKind.i64 (1:Int),boxes:=[[SV.int IntKind.i64 a,SV.int IntKind.i64 d]] })) (.leaf { res:=SV.int IntKind.i64 (1:Int),boxes:=[[SV.int IntKind.i64 a,SV.int IntKind.i64 d]] })))) (.cond (decide (IntKind.u64.wrap (IntKind.i64.wrap (r * r)) * IntKind.u64.wrap d / (18446744073709551616:Int) < IntKind.u64.wrap (IntKind.i64.wrap ((2:Int) * a)) * (1000000000000:Int) / (18446744073709551616:Int))) (.leaf { res:=SV.int IntKind.i64 (-1:Int),boxes:=[[SV.int IntKind.i64 a,SV.int IntKind.i64 d]] }) (.cond (IntKind.u64.wrap (IntKind.i64.wrap (r * r)) * IntKind.u64.wrap d / (18446744073709551616:Int) == IntKind.u64.wrap (IntKind.i64.wrap ((2:Int) * a)) * (1000000000000:Int) / (18446744073709551616:Int)) (.cond (decide (IntKind.u64.wrap (IntKind.i64.wrap (r * r)) * IntKind.u64.wrap d % (18446744073709551616:Int) < IntKind.u64.wrap (IntKind.i64.wrap ((2:Int) * a)) * (1000000000000:Int) % (18446744073709551616:Int))) (.leaf { res:=SV.int IntKind.i64 (-1:Int),boxes:=[[SV.int IntKind.i64 a,SV.int IntKind.i64 d]] }) (.leaf { res:=SV.int IntKind.i64 (1:Int),boxes:=[[SV.int IntKind.i64 a,SV.int IntKind.i64 d]] })) (.leaf { res:=SV.int IntKind.i64 (1:Int),boxes:=[[SV.int IntKind.i64 a,SV.int IntKind.i64 d]] }))))):=by kernel_rfl
def c_Bend1:MC P:=MC.of (α:=Int × Unit × Int × Int × Unit) 116 L_Bend1 (fun x => x) (fun x => x) (fun _ => rfl)
  (fun x => some (0 ≤ x.1 ∧ x.1 < 4194304 ∧ 0 ≤ x.2.2.1 ∧ x.2.2.1 ≤ 34359738368 ∧ 0 < x.2.2.2.1 ∧ x.2.2.2.1 ≤ 34359738368))
  (fun x => ⟨.int .i64 (cmpS (x.1 * x.1 * x.2.2.2.1) (2 * x.2.2.1 * 1000000000000)),[[.int .i64 x.2.2.1,.int .i64 x.2.2.2.1]],[]⟩) (by kernel_rfl) (by kernel_rfl) (by kernel_rfl) (by
    rintro ⟨r,⟨⟩,a,d,⟨⟩⟩ hp
    refine m_of hm (own:=true) (by kernel_rfl) (by kernel_rfl) (by kernel_rfl) (T_Bend1 r a d) trivial ?_
    try dsimp only at hp
    try dsimp only
    obtain ⟨h0,h1,h2,h3,h4,h5⟩ : 0 ≤ r ∧ r < 4194304 ∧ 0 ≤ a ∧ a ≤ 34359738368 ∧ 0 < d ∧ d ≤ 34359738368:=hp
    have k:=mul_rng (a:=r) (b:=r) (A:=4194304) (B:=4194304) h0 (by omega) h0 (by omega)
    have x:=mul_rng k.1 k.2 (show 0 ≤ d by omega) h5
    have e1:IntKind.wrap .u64 (r * r) = r * r:=by rw [U_eq]; omega
    have e2:IntKind.wrap .u64 d = d:=by rw [U_eq]; omega
    have e3:IntKind.wrap .u64 (2 * a) = 2 * a:=by rw [U_eq]; omega
    rw [W_id (n:=r * r) (by omega) (by omega),W_id (n:=2 * a) (by omega) (by omega),e1,e2,e3]
    generalize r * r * d = X at *
    generalize hY:2 * a * 1000000000000 = Y at *
    have fin:∀ v,cmpS X Y = v → (⟨.int .i64 v,[[.int .i64 a,.int .i64 d]],[]⟩ : MOut) = ⟨.int .i64 (cmpS X Y),[[.int .i64 a,.int .i64 d]],[]⟩:=fun v h => by rw [h]
    refine ⟨⟨k.1,by omega,by omega,by omega⟩,⟨⟨by omega,by omega,by omega,by omega⟩,⟨fun c1 => ⟨fun c2 => ?_,fun c2 => ⟨fun c3 => ?_,fun c3 => ⟨fun c4 => ⟨fun c5 => ?_,fun c5 => ?_⟩,fun c4 => ?_⟩⟩⟩,fun c1 => ⟨fun c6 => ?_,fun c6 => ⟨fun c7 => ⟨fun c8 => ?_,fun c8 => ?_⟩,fun c7 => ?_⟩⟩⟩⟩⟩
    all_goals simp only [beq_iff_eq,beq_eq_false_iff_ne,decide_eq_true_eq,decide_eq_false_iff_not,ne_eq] at *
    all_goals refine fin _ ?_
    all_goals unfold cmpS
    all_goals split
    all_goals first | omega | (split <;> omega))
theorem lowS_rng {n d:Int} (h0:0 ≤ n) (hd:0 < d):0 ≤ (lowS n d).1 ∧ (lowS n d).1 ≤ n ∧ 0 < (lowS n d).2 ∧ (lowS n d).2 ≤ d ∧ n = gcdI n d * (lowS n d).1 ∧ d = gcdI n d * (lowS n d).2 ∧ 0 < gcdI n d:=by
  have hg:=gcdI_pos (a:=n) hd
  have d1:gcdI n d ∣ n:=by
    unfold gcdI
    have:((Nat.gcd n.toNat d.toNat:Nat):Int) ∣ ((n.toNat:Nat):Int):=Int.natCast_dvd_natCast.2 (Nat.gcd_dvd_left _ _)
    rwa [Int.toNat_of_nonneg h0] at this
  have d2:gcdI n d ∣ d:=by
    unfold gcdI
    have:((Nat.gcd n.toNat d.toNat:Nat):Int) ∣ ((d.toNat:Nat):Int):=Int.natCast_dvd_natCast.2 (Nat.gcd_dvd_right _ _)
    rwa [Int.toNat_of_nonneg (by omega)] at this
  unfold lowS
  have e1:=Int.mul_ediv_cancel' d1
  have e2:=Int.mul_ediv_cancel' d2
  refine ⟨Int.ediv_nonneg h0 (by omega),Int.ediv_le_self _ h0,?_,Int.ediv_le_self _ (by omega),e1.symm,e2.symm,hg⟩
  dsimp only
  rcases Int.lt_or_le 0 (d / gcdI n d) with h | h
  · exact h
  · have:=Int.mul_le_mul_of_nonneg_left h (show 0 ≤ gcdI n d by omega)
    omega
theorem lowS_le {n d k:Int} (h0:0 ≤ n) (hd:0 < d) (h:n ≤ k * d):(lowS n d).1 ≤ k * (lowS n d).2:=by
  obtain ⟨_,_,_,_,e1,e2,hg⟩:=lowS_rng h0 hd
  generalize (lowS n d).1 = x at *
  generalize (lowS n d).2 = y at *
  generalize gcdI n d = g at *
  have:g * x ≤ g * (k * y):=by
    have:k * d = g * (k * y):=by rw [e2]; grind
    omega
  exact Int.le_of_mul_le_mul_left this hg
theorem lowS_lt {n d:Int} (h0:0 ≤ n) (hd:0 < d) (h:n < d):(lowS n d).1 < (lowS n d).2:=by
  obtain ⟨_,_,_,_,e1,e2,hg⟩:=lowS_rng h0 hd
  generalize (lowS n d).1 = x at *
  generalize (lowS n d).2 = y at *
  generalize gcdI n d = g at *
  exact Int.lt_of_mul_lt_mul_left (show g * x < g * y by omega) (by omega)
theorem TurnS_ok {v w:V} (h:(TurnS v w).2 = 0):0 ≤ (TurnS v w).1.1 ∧ (TurnS v w).1.1 ≤ 34359738368 ∧ 0 < (TurnS v w).1.2 ∧ (TurnS v w).1.2 ≤ 34359738368 ∧ (TurnS v w).1.1 ≤ 2 * (TurnS v w).1.2 ∧ (0 < vdot v w → (TurnS v w).1.1 < (TurnS v w).1.2):=by
  unfold TurnS at *
  split at h
  · rename_i hh
    rw [if_pos hh]
    obtain ⟨h2,h3,h4,h5,h6⟩:=turn_pre hh.1 hh.2
    unfold turnS
    dsimp only
    obtain ⟨a1,a2,a3,a4,_⟩:=lowS_rng h5 h3
    have hs:=schwarz (v:=v) (w:=w) (l:=(wholeS v).1) (m:=(wholeS w).1) (wholeS_rng v).1 (wholeS_rng w).1 (wholeS_true (legS_true hh.1).1).2.2.1 (wholeS_true (legS_true hh.2).1).2.2.1
    refine ⟨a1,by omega,a3,by omega,lowS_le h5 h3 (by omega),fun hv => lowS_lt h5 h3 (by omega)⟩
  · cases h
def L_BendL:Lay:={ slots:=[(4,.ptr 5044 0),(7,.clo 116 [(6044,0)]),(8,.val tI),(9,.val tI)],boxes:=[(5044,[.val tI,.val tI]),(6044,[.val tI,.val tI])] }
def L_BendL_0:Lay:={ slots:=[(4,.ptr 5044 0),(7,.clo 116 [(6044,0)]),(8,.val tI)],boxes:=[(5044,[.val tI,.val tI]),(6044,[.val tI,.val tI])] }
def X_BendL:Exit → St → Option Lay
  | .exit 0,_ => some L_BendL_0
  | _,_ => none
abbrev C_BendL:Code:=loopC (bodyOf Tryz.f88) 0
theorem B_BendL (r b b4_0 b4_1 a d:Int):loopBodyA (P:=P) [c_Bend1.gc] (lpOf []) [] 44 noU (inner C_BendL) L_BendL X_BendL (α:=Unit × Unit × Int × Int × Int × Int × Int × Int × Unit) (fun x => x) (fun x => x) ((),(),r,b,b4_0,b4_1,a,d,()) =
  Tree.cond (decide (b > (0:Int))) (.need ((0:Int) ≤ IntKind.i64.wrap (r + b) ∧ IntKind.i64.wrap (r + b) < (4194304:Int) ∧ (0:Int) ≤ a ∧ a ≤ (34359738368:Int) ∧ (0:Int) < d ∧ d ≤ (34359738368:Int)) (.cond (decide (cmpS (IntKind.i64.wrap (r + b) * IntKind.i64.wrap (r + b) * d) ((2:Int) * a * (1000000000000:Int)) ≤ (0:Int))) (.need ((0:Int) ≤ (1:Int)) (.leaf (Sum.inl ((),(),IntKind.i64.wrap (r + b),shrI IntKind.i64 b (1:Int),b4_0,b4_1,a,d,())))) (.need ((0:Int) ≤ (1:Int)) (.leaf (Sum.inl ((),(),r,shrI IntKind.i64 b (1:Int),b4_0,b4_1,a,d,())))))) (.leaf (Sum.inr (Exit.exit (0:Nat),Lay.st L_BendL_0 noU ((),(),r,b4_0,b4_1,a,d,())))):=by kernel_rfl
def inv_BendL:Unit × Unit × Int × Int × Int × Int × Int × Int × Unit → Prop:=fun ((),(),r,b,b4_0,b4_1,a,d,()) => 0 ≤ a ∧ a ≤ 34359738368 ∧ 0 < d ∧ d ≤ 34359738368 ∧ 0 ≤ r ∧ r + 2 * b ≤ 4194304 ∧ ∃ k:Nat,b = 2 ^ k / 2 ∧ bndBits k a d r = bndI a d
def O_BendL:Unit × Unit × Int × Int × Int × Int × Int × Int × Unit → Tree (Exit × St):=fun ((),(),r,b,b4_0,b4_1,a,d,()) => (.leaf (.exit 0,L_BendL_0.st noU ((),(),(bndI a d),b4_0,b4_1,a,d,())))
def R_BendL:LRun:=runOf 44 L_BendL (fun x => x) (inv_BendL) (O_BendL)
theorem K_BendL:LoopOk P [] 44 none noU C_BendL (R_BendL):=by
  refine loop_of hm (cx:=[c_Bend1.gc]) [] (xl:=X_BendL) (α:=Unit × Unit × Int × Int × Int × Int × Int × Int × Unit) (fun x => x) (fun ((),(),r,b,b4_0,b4_1,a,d,()) => b.toNat) (fun _ => rfl) (by kernel_rfl) (by kernel_rfl) ?_ (by kernel_rfl) trivial ?_
  · intro e S L' h
    unfold X_BendL at h
    split at h <;> first | (cases h; done) | (cases h; kernel_rfl) | (rcases bif_some h with h | h <;> cases h <;> kernel_rfl)
  · rintro ⟨⟨⟩,⟨⟩,r,b,b4_0,b4_1,a,d,⟨⟩⟩ hinv Q hQ
    refine hold_of_eq (B_BendL r b b4_0 b4_1 a d) ?_
    obtain ⟨h0,h1,h2,h3,h4,h5,k,hb,hk⟩:=hinv
    have hQ' : Q (.exit 0,L_BendL_0.st noU ((),(),bndI a d,b4_0,b4_1,a,d,())):=hQ
    cases k with
    | zero =>
      have hb0:b = 0:=hb
      subst hb0
      have e:r = bndI a d:=hk
      rw [← e] at hQ'
      exact ⟨fun h => by simp at h,fun _ => hQ'⟩
    | succ k =>
      have hp' : (0:Int) < 2 ^ k:=Int.pow_pos (by decide)
      have hb' : b = 2 ^ k:=by rw [hb,shl_half]
      rw [W_id (n:=r + b) (by omega) (by omega),shr1]
      unfold bndBits at hk
      clear hb
      subst hb'
      refine ⟨fun _ => ⟨⟨by omega,by omega,h0,h1,h2,h3⟩,⟨fun h => ⟨by decide,?_⟩,fun h => ⟨by decide,?_⟩⟩⟩,fun h => by simp at h; omega⟩
      · have h:=of_decide_eq_true h
        have h' : (r + 2 ^ k) * (r + 2 ^ k) * d ≤ 2 * a * 1000000000000:=by
          unfold cmpS at h
          split at h
          · omega
          · split at h <;> omega
        rw [if_pos h'] at hk
        exact ⟨⟨⟨h0,h1,h2,h3,by omega,by omega,k,rfl,hk⟩,by show Int.toNat (2 ^ k / 2) < Int.toNat (2 ^ k); omega⟩,hQ'⟩
      · have h:=of_decide_eq_false h
        have h' : ¬ (r + 2 ^ k) * (r + 2 ^ k) * d ≤ 2 * a * 1000000000000:=by
          unfold cmpS at h
          split at h
          · omega
          · split at h <;> omega
        rw [if_neg h'] at hk
        exact ⟨⟨⟨h0,h1,h2,h3,h4,by omega,k,rfl,hk⟩,by show Int.toNat (2 ^ k / 2) < Int.toNat (2 ^ k); omega⟩,hQ'⟩
theorem T_Bend (v_0 v_1 v_2 w_0 w_1 w_2:Int):fnTree (P:=P) [c_Turn.gc,c_Bend1.gc] (lpOf [(0,R_BendL)]) Tryz.f88 (encL 0 [.agg tV,.agg tV] ((v_0,(v_1,v_2)),(w_0,(w_1,w_2)),())) =
  Tree.cond ((TurnS (v_0,v_1,v_2) (w_0,w_1,w_2)).snd != (0:Int)) (.leaf (SV.agg [SV.int IntKind.i64 (0:Int),SV.int IntKind.i64 (0:Int)])) (.need (inv_BendL ((),(),(0:Int),(2097152:Int),(0:Int),(0:Int),(TurnS (v_0,v_1,v_2) (w_0,w_1,w_2)).fst.fst,(TurnS (v_0,v_1,v_2) (w_0,w_1,w_2)).fst.snd,())) (.need ((0:Int) ≤ bndI (TurnS (v_0,v_1,v_2) (w_0,w_1,w_2)).fst.fst (TurnS (v_0,v_1,v_2) (w_0,w_1,w_2)).fst.snd ∧ bndI (TurnS (v_0,v_1,v_2) (w_0,w_1,w_2)).fst.fst (TurnS (v_0,v_1,v_2) (w_0,w_1,w_2)).fst.snd < (4194304:Int) ∧ (0:Int) ≤ (TurnS (v_0,v_1,v_2) (w_0,w_1,w_2)).fst.fst ∧ (TurnS (v_0,v_1,v_2) (w_0,w_1,w_2)).fst.fst ≤ (34359738368:Int) ∧ (0:Int) < (TurnS (v_0,v_1,v_2) (w_0,w_1,w_2)).fst.snd ∧ (TurnS (v_0,v_1,v_2) (w_0,w_1,w_2)).fst.snd ≤ (34359738368:Int)) (.cond (cmpS (bndI (TurnS (v_0,v_1,v_2) (w_0,w_1,w_2)).fst.fst (TurnS (v_0,v_1,v_2) (w_0,w_1,w_2)).fst.snd * bndI (TurnS (v_0,v_1,v_2) (w_0,w_1,w_2)).fst.fst (TurnS (v_0,v_1,v_2) (w_0,w_1,w_2)).fst.snd * (TurnS (v_0,v_1,v_2) (w_0,w_1,w_2)).fst.snd) ((2:Int) * (TurnS (v_0,v_1,v_2) (w_0,w_1,w_2)).fst.fst * (1000000000000:Int)) == (0:Int)) (.leaf (SV.agg [SV.int IntKind.i64 (bndI (TurnS (v_0,v_1,v_2) (w_0,w_1,w_2)).fst.fst (TurnS (v_0,v_1,v_2) (w_0,w_1,w_2)).fst.snd),SV.int IntKind.i64 (bndI (TurnS (v_0,v_1,v_2) (w_0,w_1,w_2)).fst.fst (TurnS (v_0,v_1,v_2) (w_0,w_1,w_2)).fst.snd)])) (.leaf (SV.agg [SV.int IntKind.i64 (bndI (TurnS (v_0,v_1,v_2) (w_0,w_1,w_2)).fst.fst (TurnS (v_0,v_1,v_2) (w_0,w_1,w_2)).fst.snd),SV.int IntKind.i64 (IntKind.i64.wrap (bndI (TurnS (v_0,v_1,v_2) (w_0,w_1,w_2)).fst.fst (TurnS (v_0,v_1,v_2) (w_0,w_1,w_2)).fst.snd + (1:Int)))]))))):=by kernel_rfl
def c_Bend:PC P:=PC.of (α:=V × V × Unit) 88 [.agg tV,.agg tV] (fun x => x) (fun x => x) (fun _ => rfl)
  (fun _ => none)
  (fun x => .agg [.int .i64 (bendV x.1 x.2.1).1,.int .i64 (bendV x.1 x.2.1).2]) (by kernel_rfl) (by
    rintro ⟨⟨v_0,⟨v_1,v_2⟩⟩,⟨w_0,⟨w_1,w_2⟩⟩,⟨⟩⟩ hp
    refine fn_of hm (by kernel_rfl) (by kernel_rfl) (T_Bend v_0 v_1 v_2 w_0 w_1 w_2) ⟨K_BendL,trivial⟩ ?_
    try dsimp only at hp
    try dsimp only
    show Tree.holds (fun s => s = SV.agg [.int .i64 (bendV (v_0,v_1,v_2) (w_0,w_1,w_2)).1,.int .i64 (bendV (v_0,v_1,v_2) (w_0,w_1,w_2)).2]) _
    unfold bendV
    refine ⟨fun c1 => ?_,fun c1 => ?_⟩
    · rw [if_neg (by simpa using c1)]; exact rfl
    · have c1:(TurnS (v_0,v_1,v_2) (w_0,w_1,w_2)).2 = 0:=by simpa using c1
      obtain ⟨t1,t2,t3,t4,t5,_⟩:=TurnS_ok c1
      rw [if_pos c1]
      generalize (TurnS (v_0,v_1,v_2) (w_0,w_1,w_2)).1.1 = a at *
      generalize (TurnS (v_0,v_1,v_2) (w_0,w_1,w_2)).1.2 = d at *
      obtain ⟨b1,b2,b3⟩:=bndI_ok t1 t5 t3
      have b4:=bndI_le t1 t5 t3
      rw [W_id (n:=bndI a d + 1) (by omega) (by omega)]
      unfold bendQ
      refine ⟨⟨t1,t2,t3,t4,by omega,by omega,22,by decide,rfl⟩,⟨⟨b1,by omega,t1,t2,t3,t4⟩,⟨fun c2 => ?_,fun c2 => ?_⟩⟩⟩
      · have c2:=eq_of_beq c2
        have:bndI a d * bndI a d * d = 2 * a * 1000000000000:=by
          unfold cmpS at c2
          split at c2
          · assumption
          · split at c2 <;> omega
        rw [if_pos this]; exact rfl
      · have c2:cmpS (bndI a d * bndI a d * d) (2 * a * 1000000000000) ≠ 0:=by simpa using c2
        have:¬ bndI a d * bndI a d * d = 2 * a * 1000000000000:=by
          intro h
          unfold cmpS at c2
          rw [if_pos h] at c2
          exact c2 rfl
        rw [if_neg this]; exact rfl)
theorem T_rparts (r:Int):fnTree (P:=P) [] (lpOf []) Tryz.f126 (encL 0 [.val tI] (r,())) =
  Tree.need ((1000000000000:Int) ≠ (0:Int)) (.need ((1000000000000:Int) ≠ (0:Int)) (.leaf (SV.tup [SV.int IntKind.i64 (IntKind.i64.wrap (Int.tdiv (IntKind.i64.wrap (r * r)) (1000000000000:Int))),SV.int IntKind.i64 (Int.tmod (IntKind.i64.wrap (r * r)) (1000000000000:Int))]))):=by kernel_rfl
def c_rparts:PC P:=PC.of (α:=Int × Unit) 126 [.val tI] (fun x => x) (fun x => x) (fun _ => rfl)
  (fun x => some (0 ≤ x.1 ∧ x.1 ≤ 2000001))
  (fun x => .tup [.int .i64 (x.1 * x.1 / 1000000000000),.int .i64 (x.1 * x.1 % 1000000000000)]) (by kernel_rfl) (by
    rintro ⟨r,⟨⟩⟩ hp
    refine fn_of hm (by kernel_rfl) (by kernel_rfl) (T_rparts r) trivial ?_
    try dsimp only at hp
    try dsimp only
    obtain ⟨h0,h1⟩ : 0 ≤ r ∧ r ≤ 2000001:=hp
    have k:=mul_rng (a:=r) (b:=r) (A:=2000001) (B:=2000001) h0 h1 h0 h1
    rw [W_id (n:=r * r) (by omega) (by omega),Int.tdiv_eq_ediv_of_nonneg k.1,Int.tmod_eq_emod_of_nonneg k.1,W_id (by omega) (by omega)]
    exact ⟨by decide,by decide,rfl⟩)
theorem T_rcompare (r a d:Int):fnTree (P:=P) [c_rparts.gc] (lpOf []) Tryz.f119 (encL 0 [.val tI,.agg tPart] (r,(a,d),())) =
  Tree.need ((0:Int) ≤ r ∧ r ≤ (2000001:Int)) (.need ((1000000:Int) ≠ (0:Int)) (.need ((1000000:Int) ≠ (0:Int)) (.need ((1000000:Int) ≠ (0:Int)) (.need ((1000000000000:Int) ≠ (0:Int)) (.need ((1000000:Int) ≠ (0:Int)) (.need ((1000000000000:Int) ≠ (0:Int)) (.need ((1000000000000:Int) ≠ (0:Int)) (.need ((1000000000000:Int) ≠ (0:Int)) (.cond (decide (IntKind.i64.wrap (IntKind.i64.wrap (IntKind.i64.wrap (r * r / (1000000000000:Int) * d) - IntKind.i64.wrap ((2:Int) * a)) + IntKind.i64.wrap (IntKind.i64.wrap (IntKind.i64.wrap (Int.tdiv (IntKind.i64.wrap (r * r % (1000000000000:Int) * IntKind.i64.wrap (Int.tdiv d (1000000:Int)))) (1000000:Int)) + IntKind.i64.wrap (Int.tdiv (IntKind.i64.wrap (r * r % (1000000000000:Int) * Int.tmod d (1000000:Int))) (1000000000000:Int))) + IntKind.i64.wrap (Int.tdiv (IntKind.i64.wrap (IntKind.i64.wrap (Int.tmod (IntKind.i64.wrap (r * r % (1000000000000:Int) * IntKind.i64.wrap (Int.tdiv d (1000000:Int)))) (1000000:Int) * (1000000:Int)) + Int.tmod (IntKind.i64.wrap (r * r % (1000000000000:Int) * Int.tmod d (1000000:Int))) (1000000000000:Int))) (1000000000000:Int)))) > (0:Int))) (.leaf (SV.int IntKind.i64 (1:Int))) (.cond (IntKind.i64.wrap (IntKind.i64.wrap (IntKind.i64.wrap (r * r / (1000000000000:Int) * d) - IntKind.i64.wrap ((2:Int) * a)) + IntKind.i64.wrap (IntKind.i64.wrap (IntKind.i64.wrap (Int.tdiv (IntKind.i64.wrap (r * r % (1000000000000:Int) * IntKind.i64.wrap (Int.tdiv d (1000000:Int)))) (1000000:Int)) + IntKind.i64.wrap (Int.tdiv (IntKind.i64.wrap (r * r % (1000000000000:Int) * Int.tmod d (1000000:Int))) (1000000000000:Int))) + IntKind.i64.wrap (Int.tdiv (IntKind.i64.wrap (IntKind.i64.wrap (Int.tmod (IntKind.i64.wrap (r * r % (1000000000000:Int) * IntKind.i64.wrap (Int.tdiv d (1000000:Int)))) (1000000:Int) * (1000000:Int)) + Int.tmod (IntKind.i64.wrap (r * r % (1000000000000:Int) * Int.tmod d (1000000:Int))) (1000000000000:Int))) (1000000000000:Int)))) == (0:Int)) (.cond (decide (Int.tmod (IntKind.i64.wrap (IntKind.i64.wrap (Int.tmod (IntKind.i64.wrap (r * r % (1000000000000:Int) * IntKind.i64.wrap (Int.tdiv d (1000000:Int)))) (1000000:Int) * (1000000:Int)) + Int.tmod (IntKind.i64.wrap (r * r % (1000000000000:Int) * Int.tmod d (1000000:Int))) (1000000000000:Int))) (1000000000000:Int) > (0:Int))) (.leaf (SV.int IntKind.i64 (1:Int))) (.cond (IntKind.i64.wrap (IntKind.i64.wrap (IntKind.i64.wrap (r * r / (1000000000000:Int) * d) - IntKind.i64.wrap ((2:Int) * a)) + IntKind.i64.wrap (IntKind.i64.wrap (IntKind.i64.wrap (Int.tdiv (IntKind.i64.wrap (r * r % (1000000000000:Int) * IntKind.i64.wrap (Int.tdiv d (1000000:Int)))) (1000000:Int)) + IntKind.i64.wrap (Int.tdiv (IntKind.i64.wrap (r * r % (1000000000000:Int) * Int.tmod d (1000000:Int))) (1000000000000:Int))) + IntKind.i64.wrap (Int.tdiv (IntKind.i64.wrap (IntKind.i64.wrap (Int.tmod (IntKind.i64.wrap (r * r % (1000000000000:Int) * IntKind.i64.wrap (Int.tdiv d (1000000:Int)))) (1000000:Int) * (1000000:Int)) + Int.tmod (IntKind.i64.wrap (r * r % (1000000000000:Int) * Int.tmod d (1000000:Int))) (1000000000000:Int))) (1000000000000:Int)))) == (0:Int)) (.cond (Int.tmod (IntKind.i64.wrap (IntKind.i64.wrap (Int.tmod (IntKind.i64.wrap (r * r % (1000000000000:Int) * IntKind.i64.wrap (Int.tdiv d (1000000:Int)))) (1000000:Int) * (1000000:Int)) + Int.tmod (IntKind.i64.wrap (r * r % (1000000000000:Int) * Int.tmod d (1000000:Int))) (1000000000000:Int))) (1000000000000:Int) == (0:Int)) (.leaf (SV.int IntKind.i64 (0:Int))) (.leaf (SV.int IntKind.i64 (-1:Int)))) (.leaf (SV.int IntKind.i64 (-1:Int))))) (.cond (IntKind.i64.wrap (IntKind.i64.wrap (IntKind.i64.wrap (r * r / (1000000000000:Int) * d) - IntKind.i64.wrap ((2:Int) * a)) + IntKind.i64.wrap (IntKind.i64.wrap (IntKind.i64.wrap (Int.tdiv (IntKind.i64.wrap (r * r % (1000000000000:Int) * IntKind.i64.wrap (Int.tdiv d (1000000:Int)))) (1000000:Int)) + IntKind.i64.wrap (Int.tdiv (IntKind.i64.wrap (r * r % (1000000000000:Int) * Int.tmod d (1000000:Int))) (1000000000000:Int))) + IntKind.i64.wrap (Int.tdiv (IntKind.i64.wrap (IntKind.i64.wrap (Int.tmod (IntKind.i64.wrap (r * r % (1000000000000:Int) * IntKind.i64.wrap (Int.tdiv d (1000000:Int)))) (1000000:Int) * (1000000:Int)) + Int.tmod (IntKind.i64.wrap (r * r % (1000000000000:Int) * Int.tmod d (1000000:Int))) (1000000000000:Int))) (1000000000000:Int)))) == (0:Int)) (.cond (Int.tmod (IntKind.i64.wrap (IntKind.i64.wrap (Int.tmod (IntKind.i64.wrap (r * r % (1000000000000:Int) * IntKind.i64.wrap (Int.tdiv d (1000000:Int)))) (1000000:Int) * (1000000:Int)) + Int.tmod (IntKind.i64.wrap (r * r % (1000000000000:Int) * Int.tmod d (1000000:Int))) (1000000000000:Int))) (1000000000000:Int) == (0:Int)) (.leaf (SV.int IntKind.i64 (0:Int))) (.leaf (SV.int IntKind.i64 (-1:Int)))) (.leaf (SV.int IntKind.i64 (-1:Int)))))))))))))):=by kernel_rfl
def c_rcompare:PC P:=PC.of (α:=Int × (Int × Int) × Unit) 119 [.val tI,.agg tPart] (fun x => x) (fun x => x) (fun _ => rfl)
  (fun x => some (0 ≤ x.1 ∧ x.1 ≤ 2000001 ∧ 0 ≤ x.2.1.1 ∧ x.2.1.1 ≤ 34359738368 ∧ 0 < x.2.1.2 ∧ x.2.1.2 ≤ 34359738368))
  (fun x => .int .i64 (cmpS (x.1 * x.1 * x.2.1.2) (2 * x.2.1.1 * 1000000000000))) (by kernel_rfl) (by
    rintro ⟨r,⟨a,d⟩,⟨⟩⟩ hp
    refine fn_of hm (by kernel_rfl) (by kernel_rfl) (T_rcompare r a d) trivial ?_
    try dsimp only at hp
    try dsimp only
    obtain ⟨h0,h1,h2,h3,h4,h5⟩ : 0 ≤ r ∧ r ≤ 2000001 ∧ 0 ≤ a ∧ a ≤ 34359738368 ∧ 0 < d ∧ d ≤ 34359738368:=hp
    have hr:=mul_rng (a:=r) (b:=r) (A:=2000001) (B:=2000001) h0 h1 h0 h1
    have hd1:Int.tdiv d 1000000 = d / 1000000:=Int.tdiv_eq_ediv_of_nonneg (by omega)
    have hd2:Int.tmod d 1000000 = d % 1000000:=Int.tmod_eq_emod_of_nonneg (by omega)
    rw [hd1,hd2,W_id (n:=d / 1000000) (by omega) (by omega)]
    obtain ⟨B,hB⟩ : ∃ B,B = r * r % 1000000000000:=⟨_,rfl⟩
    obtain ⟨A,hA⟩ : ∃ A,A = r * r / 1000000000000:=⟨_,rfl⟩
    rw [← hA,← hB]
    have hx:=mul_rng (a:=B) (b:=d / 1000000) (A:=999999999999) (B:=34360) (by omega) (by omega) (by omega) (by omega)
    have hy:=mul_rng (a:=B) (b:=d % 1000000) (A:=999999999999) (B:=999999) (by omega) (by omega) (by omega) (by omega)
    have hAd:=mul_rng (a:=A) (b:=d) (A:=4) (B:=34359738368) (by omega) (by omega) (by omega) h5
    have key:r * r * d = A * d * 1000000000000 + B * (d / 1000000) * 1000000 + B * (d % 1000000):=by
      have e1:r * r = A * 1000000000000 + B:=by omega
      have e2:d / 1000000 * 1000000 + d % 1000000 = d:=by omega
      have e3:(A * 1000000000000 + B) * d = A * d * 1000000000000 + B * d:=by grind
      have e4:B * (d / 1000000 * 1000000 + d % 1000000) = B * (d / 1000000) * 1000000 + B * (d % 1000000):=by grind
      rw [e2] at e4
      rw [e1,e3,e4]
      omega
    rw [key]
    generalize B * (d / 1000000) = x at *
    generalize B * (d % 1000000) = y at *
    generalize A * d = z at *
    have q1:Int.tdiv x 1000000 = x / 1000000:=Int.tdiv_eq_ediv_of_nonneg hx.1
    have q2:Int.tmod x 1000000 = x % 1000000:=Int.tmod_eq_emod_of_nonneg hx.1
    have q3:Int.tdiv y 1000000000000 = y / 1000000000000:=Int.tdiv_eq_ediv_of_nonneg hy.1
    have q4:Int.tmod y 1000000000000 = y % 1000000000000:=Int.tmod_eq_emod_of_nonneg hy.1
    rw [W_id (n:=x) (by omega) (by omega),W_id (n:=y) (by omega) (by omega),q1,q2,q3,q4,W_id (n:=x / 1000000) (by omega) (by omega),W_id (n:=y / 1000000000000) (by omega) (by omega),W_id (n:=x / 1000000 + y / 1000000000000) (by omega) (by omega),
      W_id (n:=x % 1000000 * 1000000) (by omega) (by omega),W_id (n:=x % 1000000 * 1000000 + y % 1000000000000) (by omega) (by omega),Int.tdiv_eq_ediv_of_nonneg (show 0 ≤ x % 1000000 * 1000000 + y % 1000000000000 by omega),Int.tmod_eq_emod_of_nonneg (show 0 ≤ x % 1000000 * 1000000 + y % 1000000000000 by omega),
      W_id (n:=(x % 1000000 * 1000000 + y % 1000000000000) / 1000000000000) (by omega) (by omega),W_id (n:=z) (by omega) (by omega),W_id (n:=2 * a) (by omega) (by omega),W_id (n:=z - 2 * a) (by omega) (by omega),
      W_id (n:=x / 1000000 + y / 1000000000000 + (x % 1000000 * 1000000 + y % 1000000000000) / 1000000000000) (by omega) (by omega),W_id (n:=z - 2 * a + (x / 1000000 + y / 1000000000000 + (x % 1000000 * 1000000 + y % 1000000000000) / 1000000000000)) (by omega) (by omega)]
    have fin:∀ v,cmpS (z * 1000000000000 + x * 1000000 + y) (2 * a * 1000000000000) = v → SV.int .i64 v = SV.int .i64 (cmpS (z * 1000000000000 + x * 1000000 + y) (2 * a * 1000000000000)):=fun v h => by rw [h]
    clear key hA hB hr hd1 hd2 q1 q2 q3 q4
    refine ⟨⟨h0,h1⟩,⟨by decide,⟨by decide,⟨by decide,⟨by decide,⟨by decide,⟨by decide,⟨by decide,⟨by decide,⟨fun c1 => ?_,fun c1 => ⟨fun c2 => ⟨fun c3 => ?_,fun c3 => ⟨fun c4 => ⟨fun c5 => ?_,fun c5 => ?_⟩,fun c4 => ?_⟩⟩,fun c2 => ⟨fun c6 => ⟨fun c7 => ?_,fun c7 => ?_⟩,fun c6 => ?_⟩⟩⟩⟩⟩⟩⟩⟩⟩⟩⟩⟩
    all_goals simp only [beq_iff_eq,beq_eq_false_iff_ne,decide_eq_true_eq,decide_eq_false_iff_not,ne_eq] at *
    all_goals refine fin _ ?_
    all_goals unfold cmpS
    all_goals split
    all_goals first | omega | (split <;> omega))
theorem T_rmore (r a d:Int):fnTree (P:=P) [c_rcompare.gc] (lpOf []) Tryz.f95 (encL 0 [.val tI,.agg tPart] (r,(a,d),())) =
  Tree.need ((0:Int) ≤ r ∧ r ≤ (2000001:Int) ∧ (0:Int) ≤ a ∧ a ≤ (34359738368:Int) ∧ (0:Int) < d ∧ d ≤ (34359738368:Int)) (.leaf (SV.bool (decide (cmpS (r * r * d) ((2:Int) * a * (1000000000000:Int)) > (0:Int))))):=by kernel_rfl
def c_rmore:PC P:=PC.of (α:=Int × (Int × Int) × Unit) 95 [.val tI,.agg tPart] (fun x => x) (fun x => x) (fun _ => rfl)
  (fun x => some (0 ≤ x.1 ∧ x.1 ≤ 2000001 ∧ 0 ≤ x.2.1.1 ∧ x.2.1.1 ≤ 34359738368 ∧ 0 < x.2.1.2 ∧ x.2.1.2 ≤ 34359738368))
  (fun x => .bool (decide (x.1 * x.1 * x.2.1.2 > 2 * x.2.1.1 * 1000000000000))) (by kernel_rfl) (by
    rintro ⟨r,⟨a,d⟩,⟨⟩⟩ hp
    refine fn_of hm (by kernel_rfl) (by kernel_rfl) (T_rmore r a d) trivial ?_
    try dsimp only at hp
    try dsimp only
    refine ⟨hp,?_⟩
    show SV.bool _ = SV.bool _
    congr 1
    rw [decide_eq_decide]
    generalize r * r * d = x
    generalize 2 * a * 1000000000000 = y
    unfold cmpS
    split
    · omega
    · split <;> omega)
theorem T_rless (r a d:Int):fnTree (P:=P) [c_rcompare.gc] (lpOf []) Tryz.f96 (encL 0 [.val tI,.agg tPart] (r,(a,d),())) =
  Tree.need ((0:Int) ≤ r ∧ r ≤ (2000001:Int) ∧ (0:Int) ≤ a ∧ a ≤ (34359738368:Int) ∧ (0:Int) < d ∧ d ≤ (34359738368:Int)) (.leaf (SV.bool (decide (cmpS (r * r * d) ((2:Int) * a * (1000000000000:Int)) < (0:Int))))):=by kernel_rfl
def c_rless:PC P:=PC.of (α:=Int × (Int × Int) × Unit) 96 [.val tI,.agg tPart] (fun x => x) (fun x => x) (fun _ => rfl)
  (fun x => some (0 ≤ x.1 ∧ x.1 ≤ 2000001 ∧ 0 ≤ x.2.1.1 ∧ x.2.1.1 ≤ 34359738368 ∧ 0 < x.2.1.2 ∧ x.2.1.2 ≤ 34359738368))
  (fun x => .bool (decide (x.1 * x.1 * x.2.1.2 < 2 * x.2.1.1 * 1000000000000))) (by kernel_rfl) (by
    rintro ⟨r,⟨a,d⟩,⟨⟩⟩ hp
    refine fn_of hm (by kernel_rfl) (by kernel_rfl) (T_rless r a d) trivial ?_
    try dsimp only at hp
    try dsimp only
    refine ⟨hp,?_⟩
    show SV.bool _ = SV.bool _
    congr 1
    rw [decide_eq_decide]
    generalize r * r * d = x
    generalize 2 * a * 1000000000000 = y
    unfold cmpS
    split
    · omega
    · split <;> omega)
def L_rBendL:Lay:={ slots:=[(4,.ptr 5045 0),(5,.ptr 6045 0),(7,.val tI),(8,.val tI)],boxes:=[(5045,[.val tI,.val tI]),(6045,[.val tI,.val tI])] }
def L_rBendL_0:Lay:={ slots:=[(4,.ptr 5045 0),(5,.ptr 6045 0),(7,.val tI)],boxes:=[(5045,[.val tI,.val tI]),(6045,[.val tI,.val tI])] }
def X_rBendL:Exit → St → Option Lay
  | .exit 0,_ => some L_rBendL_0
  | _,_ => none
abbrev C_rBendL:Code:=loopC (bodyOf Tryz.f70) 0
theorem B_rBendL (lo hi b4_0 b4_1 a d:Int):loopBodyA (P:=P) [c_rmore.gc] (lpOf []) [] 45 noU (inner C_rBendL) L_rBendL X_rBendL (α:=Unit × Unit × Int × Int × Int × Int × Int × Int × Unit) (fun x => x) (fun x => x) ((),(),lo,hi,b4_0,b4_1,a,d,()) =
  Tree.cond (decide (lo < hi)) (.need ((2:Int) ≠ (0:Int)) (.need ((0:Int) ≤ IntKind.i64.wrap (Int.tdiv (IntKind.i64.wrap (IntKind.i64.wrap (lo + hi) + (1:Int))) (2:Int)) ∧ IntKind.i64.wrap (Int.tdiv (IntKind.i64.wrap (IntKind.i64.wrap (lo + hi) + (1:Int))) (2:Int)) ≤ (2000001:Int) ∧ (0:Int) ≤ a ∧ a ≤ (34359738368:Int) ∧ (0:Int) < d ∧ d ≤ (34359738368:Int)) (.cond (!decide (IntKind.i64.wrap (Int.tdiv (IntKind.i64.wrap (IntKind.i64.wrap (lo + hi) + (1:Int))) (2:Int)) * IntKind.i64.wrap (Int.tdiv (IntKind.i64.wrap (IntKind.i64.wrap (lo + hi) + (1:Int))) (2:Int)) * d > (2:Int) * a * (1000000000000:Int))) (.leaf (Sum.inl ((),(),IntKind.i64.wrap (Int.tdiv (IntKind.i64.wrap (IntKind.i64.wrap (lo + hi) + (1:Int))) (2:Int)),hi,b4_0,b4_1,a,d,()))) (.leaf (Sum.inl ((),(),lo,IntKind.i64.wrap (IntKind.i64.wrap (Int.tdiv (IntKind.i64.wrap (IntKind.i64.wrap (lo + hi) + (1:Int))) (2:Int)) - (1:Int)),b4_0,b4_1,a,d,())))))) (.leaf (Sum.inr (Exit.exit (0:Nat),Lay.st L_rBendL_0 noU ((),(),lo,b4_0,b4_1,a,d,())))):=by kernel_rfl
def inv_rBendL:Unit × Unit × Int × Int × Int × Int × Int × Int × Unit → Prop:=fun ((),(),lo,hi,b4_0,b4_1,a,d,()) => 0 ≤ a ∧ a ≤ 34359738368 ∧ 0 < d ∧ d ≤ 34359738368 ∧ a ≤ 2 * d ∧ 0 ≤ lo ∧ lo ≤ bndI a d ∧ bndI a d ≤ hi ∧ hi ≤ 2000000
def O_rBendL:Unit × Unit × Int × Int × Int × Int × Int × Int × Unit → Tree (Exit × St):=fun ((),(),lo,hi,b4_0,b4_1,a,d,()) => (.leaf (.exit 0,L_rBendL_0.st noU ((),(),(bndI a d),b4_0,b4_1,a,d,())))
def R_rBendL:LRun:=runOf 45 L_rBendL (fun x => x) (inv_rBendL) (O_rBendL)
theorem K_rBendL:LoopOk P [] 45 none noU C_rBendL (R_rBendL):=by
  refine loop_of hm (cx:=[c_rmore.gc]) [] (xl:=X_rBendL) (α:=Unit × Unit × Int × Int × Int × Int × Int × Int × Unit) (fun x => x) (fun ((),(),lo,hi,b4_0,b4_1,a,d,()) => (hi - lo).toNat) (fun _ => rfl) (by kernel_rfl) (by kernel_rfl) ?_ (by kernel_rfl) trivial ?_
  · intro e S L' h
    unfold X_rBendL at h
    split at h <;> first | (cases h; done) | (cases h; kernel_rfl) | (rcases bif_some h with h | h <;> cases h <;> kernel_rfl)
  · rintro ⟨⟨⟩,⟨⟩,lo,hi,b4_0,b4_1,a,d,⟨⟩⟩ hinv Q hQ
    refine hold_of_eq (B_rBendL lo hi b4_0 b4_1 a d) ?_
    obtain ⟨h0,h1,h2,h3,h4,h5,h6,h7,h8⟩:=hinv
    obtain ⟨b1,b2,b3⟩:=bndI_ok h0 h4 h2
    have hQ' : Q (.exit 0,L_rBendL_0.st noU ((),(),bndI a d,b4_0,b4_1,a,d,())):=hQ
    refine ⟨fun h => ?_,fun h => ?_⟩
    · have h:=of_decide_eq_true h
      rw [W_id (n:=lo + hi) (by omega) (by omega),W_id (n:=lo + hi + 1) (by omega) (by omega),Int.tdiv_eq_ediv_of_nonneg (show 0 ≤ lo + hi + 1 by omega)]
      generalize hm' : (lo + hi + 1) / 2 = m
      have m1:lo < m:=by omega
      have m2:m ≤ hi:=by omega
      rw [W_id (n:=m) (by omega) (by omega),W_id (n:=m - 1) (by omega) (by omega)]
      refine ⟨by decide,⟨by omega,by omega,h0,h1,h2,h3⟩,fun c => ?_,fun c => ?_⟩
      · have c:¬ m * m * d > 2 * a * 1000000000000:=by simpa using c
        have:m < bndI a d + 1:=sqd_lt (by omega) h2 (by omega)
        exact ⟨⟨⟨h0,h1,h2,h3,h4,by omega,by omega,h7,h8⟩,by show (hi - m).toNat < (hi - lo).toNat; omega⟩,hQ'⟩
      · have c:m * m * d > 2 * a * 1000000000000:=by simpa using c
        have:bndI a d < m:=sqd_lt (by omega) h2 (by omega)
        exact ⟨⟨⟨h0,h1,h2,h3,h4,h5,h6,by omega,by omega⟩,by show (m - 1 - lo).toNat < (hi - lo).toNat; omega⟩,hQ'⟩
    · have h:=of_decide_eq_false h
      have e:lo = bndI a d:=by omega
      rw [← e] at hQ'
      exact hQ'
theorem T_rBend (v_0 v_1 v_2 w_0 w_1 w_2:Int):fnTree (P:=P) [c_rTurn.gc,c_rless.gc] (lpOf [(0,R_rBendL)]) Tryz.f70 (encL 0 [.agg tV,.agg tV] ((v_0,(v_1,v_2)),(w_0,(w_1,w_2)),())) =
  Tree.cond ((TurnS (v_0,v_1,v_2) (w_0,w_1,w_2)).snd != (0:Int)) (.leaf (SV.agg [SV.int IntKind.i64 (0:Int),SV.int IntKind.i64 (0:Int)])) (.need (inv_rBendL ((),(),(0:Int),(2000000:Int),(0:Int),(0:Int),(TurnS (v_0,v_1,v_2) (w_0,w_1,w_2)).fst.fst,(TurnS (v_0,v_1,v_2) (w_0,w_1,w_2)).fst.snd,())) (.need ((0:Int) ≤ bndI (TurnS (v_0,v_1,v_2) (w_0,w_1,w_2)).fst.fst (TurnS (v_0,v_1,v_2) (w_0,w_1,w_2)).fst.snd ∧ bndI (TurnS (v_0,v_1,v_2) (w_0,w_1,w_2)).fst.fst (TurnS (v_0,v_1,v_2) (w_0,w_1,w_2)).fst.snd ≤ (2000001:Int) ∧ (0:Int) ≤ (TurnS (v_0,v_1,v_2) (w_0,w_1,w_2)).fst.fst ∧ (TurnS (v_0,v_1,v_2) (w_0,w_1,w_2)).fst.fst ≤ (34359738368:Int) ∧ (0:Int) < (TurnS (v_0,v_1,v_2) (w_0,w_1,w_2)).fst.snd ∧ (TurnS (v_0,v_1,v_2) (w_0,w_1,w_2)).fst.snd ≤ (34359738368:Int)) (.cond (decide (bndI (TurnS (v_0,v_1,v_2) (w_0,w_1,w_2)).fst.fst (TurnS (v_0,v_1,v_2) (w_0,w_1,w_2)).fst.snd * bndI (TurnS (v_0,v_1,v_2) (w_0,w_1,w_2)).fst.fst (TurnS (v_0,v_1,v_2) (w_0,w_1,w_2)).fst.snd * (TurnS (v_0,v_1,v_2) (w_0,w_1,w_2)).fst.snd < (2:Int) * (TurnS (v_0,v_1,v_2) (w_0,w_1,w_2)).fst.fst * (1000000000000:Int))) (.leaf (SV.agg [SV.int IntKind.i64 (bndI (TurnS (v_0,v_1,v_2) (w_0,w_1,w_2)).fst.fst (TurnS (v_0,v_1,v_2) (w_0,w_1,w_2)).fst.snd),SV.int IntKind.i64 (IntKind.i64.wrap (bndI (TurnS (v_0,v_1,v_2) (w_0,w_1,w_2)).fst.fst (TurnS (v_0,v_1,v_2) (w_0,w_1,w_2)).fst.snd + (1:Int)))])) (.leaf (SV.agg [SV.int IntKind.i64 (bndI (TurnS (v_0,v_1,v_2) (w_0,w_1,w_2)).fst.fst (TurnS (v_0,v_1,v_2) (w_0,w_1,w_2)).fst.snd),SV.int IntKind.i64 (bndI (TurnS (v_0,v_1,v_2) (w_0,w_1,w_2)).fst.fst (TurnS (v_0,v_1,v_2) (w_0,w_1,w_2)).fst.snd)]))))):=by kernel_rfl
def c_rBend:PC P:=PC.of (α:=V × V × Unit) 70 [.agg tV,.agg tV] (fun x => x) (fun x => x) (fun _ => rfl)
  (fun _ => none)
  (fun x => .agg [.int .i64 (bendV x.1 x.2.1).1,.int .i64 (bendV x.1 x.2.1).2]) (by kernel_rfl) (by
    rintro ⟨⟨v_0,⟨v_1,v_2⟩⟩,⟨w_0,⟨w_1,w_2⟩⟩,⟨⟩⟩ hp
    refine fn_of hm (by kernel_rfl) (by kernel_rfl) (T_rBend v_0 v_1 v_2 w_0 w_1 w_2) ⟨K_rBendL,trivial⟩ ?_
    try dsimp only at hp
    try dsimp only
    show Tree.holds (fun s => s = SV.agg [.int .i64 (bendV (v_0,v_1,v_2) (w_0,w_1,w_2)).1,.int .i64 (bendV (v_0,v_1,v_2) (w_0,w_1,w_2)).2]) _
    unfold bendV
    refine ⟨fun c1 => ?_,fun c1 => ?_⟩
    · rw [if_neg (by simpa using c1)]; exact rfl
    · have c1:(TurnS (v_0,v_1,v_2) (w_0,w_1,w_2)).2 = 0:=by simpa using c1
      obtain ⟨t1,t2,t3,t4,t5,_⟩:=TurnS_ok c1
      rw [if_pos c1]
      generalize (TurnS (v_0,v_1,v_2) (w_0,w_1,w_2)).1.1 = a at *
      generalize (TurnS (v_0,v_1,v_2) (w_0,w_1,w_2)).1.2 = d at *
      obtain ⟨b1,b2,b3⟩:=bndI_ok t1 t5 t3
      have b4:=bndI_le t1 t5 t3
      rw [W_id (n:=bndI a d + 1) (by omega) (by omega)]
      unfold bendQ
      refine ⟨⟨t1,t2,t3,t4,t5,by omega,b1,b4,by omega⟩,⟨⟨b1,by omega,t1,t2,t3,t4⟩,⟨fun c2 => ?_,fun c2 => ?_⟩⟩⟩
      · have c2:=of_decide_eq_true c2
        rw [if_neg (by omega)]; exact rfl
      · have c2:=of_decide_eq_false c2
        rw [if_pos (by omega)]; exact rfl)
end
end Go.MP
