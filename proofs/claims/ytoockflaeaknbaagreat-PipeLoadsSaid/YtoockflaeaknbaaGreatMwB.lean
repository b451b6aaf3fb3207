/- Lengths of vectors, turns, quotients. -/
import Derived.Test.YtoockflaeaknbaaGreatMwA
namespace Go.MP
open Go Go.Sx Go.Proofs
noncomputable section
def dotZ (v w:V):Int:=v.1 * w.1 + v.2.1 * w.2.1 + v.2.2 * w.2.2
theorem absB {a A:Int} (ha : -A ≤ a ∧ a ≤ A):a.natAbs ≤ A.natAbs:=by omega
theorem mulB {a b A B:Int} (ha : -A ≤ a ∧ a ≤ A) (hb : -B ≤ b ∧ b ≤ B) : -(A * B) ≤ a * b ∧ a * b ≤ A * B:=by
  have h:(a * b).natAbs ≤ (A * B).natAbs:=by
    rw [Int.natAbs_mul,Int.natAbs_mul]
    exact Nat.mul_le_mul (absB ha) (absB hb)
  have h2:0 ≤ A * B:=Int.mul_nonneg (by omega) (by omega)
  omega
theorem inB_iff {v:V} {n:Int}:inB v n = true ↔ (-n ≤ v.1 ∧ v.1 ≤ n) ∧ (-n ≤ v.2.1 ∧ v.2.1 ≤ n) ∧ (-n ≤ v.2.2 ∧ v.2.2 ≤ n):=by
  unfold inB
  simp only [decide_eq_true_eq]
  omega
theorem inB_mono {v:V} {m n:Int} (h:inB v m = true) (hmn:m ≤ n):inB v n = true:=by
  rw [inB_iff] at *
  omega
theorem vdot_eq {v w:V} (hv:inB v 16777216 = true) (hw:inB w 16777216 = true):vdot v w = dotZ v w:=by
  rw [inB_iff] at hv hw
  have h1:=mulB hv.1 hw.1
  have h2:=mulB hv.2.1 hw.2.1
  have h3:=mulB hv.2.2 hw.2.2
  unfold vdot dotZ
  rw [W_id (n:=v.1 * w.1) (by omega) (by omega),W_id (n:=v.2.1 * w.2.1) (by omega) (by omega),W_id (n:=v.2.2 * w.2.2) (by omega) (by omega),W_id (n:=v.1 * w.1 + v.2.1 * w.2.1) (by omega) (by omega),W_id (by omega) (by omega)]
theorem sq_nonneg (a:Int):0 ≤ a * a:=by
  rcases Int.le_total 0 a with h | h
  · exact Int.mul_nonneg h h
  · exact Int.mul_nonneg_of_nonpos_of_nonpos h h
def wholeS (v:V):Int × Bool:=if inB v 16777216 = true then rootS (dotZ v v) else (0,false)
def legS (v:V):Int × Bool:=((wholeS v).1,(wholeS v).2 && (decide ((wholeS v).1 ≥ 1) && decide ((wholeS v).1 ≤ 131072)))
def validS (v:V):Bool:=inB v 1048576 && decide (v.2.2 ≥ 0)
theorem sq_le {a b:Int} (h0:0 ≤ b) (h:a * a ≤ b * b) : -b ≤ a ∧ a ≤ b:=by
  have h1:(a * a).natAbs ≤ (b * b).natAbs:=by have:=sq_nonneg a; omega
  rw [Int.natAbs_mul,Int.natAbs_mul] at h1
  have h2:a.natAbs ≤ b.natAbs:=by
    rcases Nat.lt_or_ge b.natAbs a.natAbs with h | h
    · have:=Nat.mul_lt_mul_of_lt_of_lt h h; omega
    · exact h
  omega
theorem wholeS_true {v:V} (h:(wholeS v).2 = true):inB v 16777216 = true ∧ 0 ≤ (wholeS v).1 ∧ (wholeS v).1 * (wholeS v).1 = dotZ v v ∧ inB v (wholeS v).1 = true ∧ (wholeS v).1 ≤ 33554432:=by
  unfold wholeS at *
  split at h
  · rename_i hi
    rw [if_pos hi]
    obtain ⟨h1,h2,h3,h4⟩:=rootS_true h
    refine ⟨hi,h1,h2,?_,?_⟩
    · rw [inB_iff]
      have e1:=sq_nonneg v.1
      have e2:=sq_nonneg v.2.1
      have e3:=sq_nonneg v.2.2
      unfold dotZ at h2
      exact ⟨sq_le h1 (by unfold dotZ; omega),sq_le h1 (by unfold dotZ; omega),sq_le h1 (by unfold dotZ; omega)⟩
    · exact (sq_le (a:=(rootS (dotZ v v)).1) (b:=33554432) (by decide) (by rw [h2]; omega)).2
  · cases h
theorem wholeS_false {v:V} (h:(wholeS v).2 = false):(wholeS v).1 = 0:=by
  unfold wholeS at *
  split at h
  · rename_i hi
    rw [if_pos hi]; exact rootS_false h
  · rename_i hi
    rw [if_neg hi]
theorem wholeS_rng (v:V):0 ≤ (wholeS v).1 ∧ (wholeS v).1 ≤ 33554432:=by
  cases h:(wholeS v).2 with
  | true => obtain ⟨_,h1,_,_,h2⟩:=wholeS_true h; exact ⟨h1,h2⟩
  | false => rw [wholeS_false h]; decide
theorem legS_true {v:V} (h:(legS v).2 = true):(wholeS v).2 = true ∧ 1 ≤ (wholeS v).1 ∧ (wholeS v).1 ≤ 131072:=by
  unfold legS at h
  simpa [Bool.and_eq_true] using h
theorem T_whole (x y z:Int):fnTree (P:=P) [c_inside.gc,c_dot.gc,c_root.gc] (lpOf []) Tryz.f102 (encL 0 [.agg tV] ((x,y,z),())) =
  Tree.need ((0:Int) ≤ (16777216:Int) ∧ (16777216:Int) < (2:Int) ^ (62:Nat)) (.cond (!inB (x,y,z) (16777216:Int)) (.leaf (SV.tup [SV.int IntKind.i64 (0:Int),SV.bool false])) (.leaf (SV.tup [SV.int IntKind.i64 (rootS (vdot (x,y,z) (x,y,z))).fst,SV.bool (rootS (vdot (x,y,z) (x,y,z))).snd]))):=by kernel_rfl
def c_whole:PC P:=PC.of (α:=V × Unit) 102 [.agg tV] (fun x => x) (fun x => x) (fun _ => rfl)
  (fun _ => none)
  (fun x => .tup [.int .i64 (wholeS x.1).1,.bool (wholeS x.1).2]) (by kernel_rfl) (by
    rintro ⟨⟨x,y,z⟩,⟨⟩⟩ hp
    refine fn_of hm (by kernel_rfl) (by kernel_rfl) (T_whole x y z) trivial ?_
    refine ⟨by decide,fun h => ?_,fun h => ?_⟩
    · simp only [Bool.not_eq_true'] at h
      show SV.tup _ = _
      simp only [wholeS,h,if_neg (Bool.false_ne_true)]
    · simp only [Bool.not_eq_false'] at h
      show SV.tup _ = _
      simp only [wholeS,h,if_true,vdot_eq h h])
theorem T_leg (x y z:Int):fnTree (P:=P) [c_whole.gc] (lpOf []) Tryz.f124 (encL 0 [.agg tV] ((x,y,z),())) =
  Tree.cond (wholeS (x,y,z)).snd (.cond (decide ((wholeS (x,y,z)).fst ≥ (1:Int))) (.leaf (SV.tup [SV.int IntKind.i64 (wholeS (x,y,z)).fst,SV.bool (decide ((wholeS (x,y,z)).fst ≤ (131072:Int)))])) (.leaf (SV.tup [SV.int IntKind.i64 (wholeS (x,y,z)).fst,SV.bool false]))) (.leaf (SV.tup [SV.int IntKind.i64 (wholeS (x,y,z)).fst,SV.bool false])):=by kernel_rfl
def c_leg:PC P:=PC.of (α:=V × Unit) 124 [.agg tV] (fun x => x) (fun x => x) (fun _ => rfl)
  (fun _ => none)
  (fun x => .tup [.int .i64 (legS x.1).1,.bool (legS x.1).2]) (by kernel_rfl) (by
    rintro ⟨⟨x,y,z⟩,⟨⟩⟩ hp
    refine fn_of hm (by kernel_rfl) (by kernel_rfl) (T_leg x y z) trivial ?_
    show Tree.holds (fun s => s = SV.tup [.int .i64 (legS (x,y,z)).1,.bool (legS (x,y,z)).2]) _
    unfold legS
    refine ⟨fun h => ⟨fun h2 => ?_,fun h2 => ?_⟩,fun h => ?_⟩
    · show SV.tup _ = _
      simp only [h,h2,Bool.true_and]
    · show SV.tup _ = _
      simp only [h,h2,Bool.true_and,Bool.false_and]
    · show SV.tup _ = _
      simp only [h,Bool.false_and])
theorem T_valid (x y z:Int):fnTree (P:=P) [c_inside.gc] (lpOf []) Tryz.f101 (encL 0 [.agg tV] ((x,y,z),())) =
  Tree.need ((0:Int) ≤ (1048576:Int) ∧ (1048576:Int) < (2:Int) ^ (62:Nat)) (.cond (inB (x,y,z) (1048576:Int)) (.leaf (SV.bool (decide (z ≥ (0:Int))))) (.leaf (SV.bool false))):=by kernel_rfl
def c_valid:PC P:=PC.of (α:=V × Unit) 101 [.agg tV] (fun x => x) (fun x => x) (fun _ => rfl)
  (fun _ => none)
  (fun x => .bool (validS x.1)) (by kernel_rfl) (by
    rintro ⟨⟨x,y,z⟩,⟨⟩⟩ hp
    refine fn_of hm (by kernel_rfl) (by kernel_rfl) (T_valid x y z) trivial ?_
    refine ⟨by decide,fun h => ?_,fun h => ?_⟩ <;> (show SV.bool _ = _; simp only [validS,h,Bool.true_and,Bool.false_and]))
theorem tmod_pos {a b:Int} (hb:0 < b):Int.tmod a b = a % b ∨ (Int.tmod a b = a % b - b ∧ a < 0):=by
  rw [Int.tmod_eq_emod]
  split
  · left; omega
  · right
    have:(b.natAbs:Int) = b:=by omega
    exact ⟨by omega,by omega⟩
theorem T_Mod64 (a b:Int):fnTree (P:=P) [] (lpOf []) Tryz.f18 (encL 0 [.val tI,.val tI] (a,b,())) =
  Tree.need (b ≠ (0:Int)) (.cond (decide (Int.tmod a b < (0:Int))) (.leaf (SV.int IntKind.i64 (IntKind.i64.wrap (Int.tmod a b + b)))) (.leaf (SV.int IntKind.i64 (Int.tmod a b)))):=by kernel_rfl
def c_Mod64:PC P:=PC.of (α:=Int × Int × Unit) 18 [.val tI,.val tI] (fun x => x) (fun x => x) (fun _ => rfl)
  (fun x => some (0 < x.2.1 ∧ R64 x.2.1))
  (fun x => .int .i64 (x.1 % x.2.1)) (by kernel_rfl) (by
    rintro ⟨a,b,⟨⟩⟩ hp
    refine fn_of hm (by kernel_rfl) (by kernel_rfl) (T_Mod64 a b) trivial ?_
    obtain ⟨h0,h1,h2⟩ : 0 < b ∧ R64 b:=hp
    have h3:=Int.emod_nonneg a (show b ≠ 0 by omega)
    have h4:=Int.emod_lt_of_pos a h0
    refine ⟨by omega,fun h => ?_,fun h => ?_⟩
    · simp only [decide_eq_true_eq] at h
      show SV.int .i64 _ = SV.int .i64 (a % b)
      rcases tmod_pos (a:=a) h0 with e | ⟨e,_⟩
      · omega
      · rw [e,W_id (by omega) (by omega)]; congr 1; omega
    · simp only [decide_eq_false_iff_not] at h
      show SV.int .i64 _ = SV.int .i64 (a % b)
      rcases tmod_pos (a:=a) h0 with e | ⟨e,_⟩
      · rw [e]
      · omega)
theorem T_Mod (a b:Int):fnTree (P:=P) [] (lpOf []) Tryz.f60 (encL 0 [.val tI,.val tI] (a,b,())) =
  Tree.need (b ≠ (0:Int)) (.cond (decide (Int.tmod a b < (0:Int))) (.leaf (SV.int IntKind.i64 (IntKind.i64.wrap (Int.tmod a b + b)))) (.leaf (SV.int IntKind.i64 (Int.tmod a b)))):=by kernel_rfl
def c_Mod:PC P:=PC.of (α:=Int × Int × Unit) 60 [.val tI,.val tI] (fun x => x) (fun x => x) (fun _ => rfl)
  (fun x => some (0 < x.2.1 ∧ R64 x.2.1))
  (fun x => .int .i64 (x.1 % x.2.1)) (by kernel_rfl) (by
    rintro ⟨a,b,⟨⟩⟩ hp
    refine fn_of hm (by kernel_rfl) (by kernel_rfl) (T_Mod a b) trivial ?_
    obtain ⟨h0,h1,h2⟩ : 0 < b ∧ R64 b:=hp
    have h3:=Int.emod_nonneg a (show b ≠ 0 by omega)
    have h4:=Int.emod_lt_of_pos a h0
    refine ⟨by omega,fun h => ?_,fun h => ?_⟩
    · simp only [decide_eq_true_eq] at h
      show SV.int .i64 _ = SV.int .i64 (a % b)
      rcases tmod_pos (a:=a) h0 with e | ⟨e,_⟩
      · omega
      · rw [e,W_id (by omega) (by omega)]; congr 1; omega
    · simp only [decide_eq_false_iff_not] at h
      show SV.int .i64 _ = SV.int .i64 (a % b)
      rcases tmod_pos (a:=a) h0 with e | ⟨e,_⟩
      · rw [e]
      · omega)
def floorW (a b:Int):Int:=if Int.tmod a b < 0 then IntKind.i64.wrap (IntKind.i64.wrap (Int.tdiv a b) - 1) else IntKind.i64.wrap (Int.tdiv a b)
def gcdI (a b:Int):Int:=(Nat.gcd a.toNat b.toNat:Nat)
def lowS (n d:Int):Int × Int:=(n / gcdI n d,d / gcdI n d)
theorem gcdI_step {a b:Int} (ha:0 ≤ a) (hb:0 < b):gcdI b (Int.tmod a b) = gcdI a b:=by
  unfold gcdI
  congr 1
  have h1:(Int.tmod a b).toNat = a.toNat % b.toNat:=by
    rw [Int.tmod_eq_emod_of_nonneg ha]
    have e1:a = (a.toNat:Int):=by omega
    have e2:b = (b.toNat:Int):=by omega
    rw [e1,e2]
    simp only [Int.toNat_natCast]
    omega
  rw [h1,Nat.gcd_comm a.toNat,Nat.gcd_rec b.toNat a.toNat,Nat.gcd_comm]
theorem gcdI_pos {a b:Int} (hb:0 < b):0 < gcdI a b:=by
  unfold gcdI
  have:0 < Nat.gcd a.toNat b.toNat:=Nat.gcd_pos_of_pos_right _ (by omega)
  omega
def L_lowest:Lay:={ slots:=[(0,.val tI),(1,.val tI),(4,.ptr 5022 0),(5,.val tI),(6,.val tI)],boxes:=[(5022,[.val tI,.val tI])] }
def L_lowest_0:Lay:={ slots:=[(0,.val tI),(1,.val tI),(4,.ptr 5022 0),(5,.val tI)],boxes:=[(5022,[.val tI,.val tI])] }
def X_lowest:Exit → St → Option Lay
  | .exit 0,_ => some L_lowest_0
  | _,_ => none
abbrev C_lowest:Code:=loopC (bodyOf Tryz.f128) 0
theorem B_lowest (n d a b p q:Int):loopBodyA (P:=P) [] (lpOf []) [] 22 noU (inner C_lowest) L_lowest X_lowest (α:=Int × Int × Unit × Int × Int × Int × Int × Unit) (fun x => x) (fun x => x) (n,d,(),a,b,p,q,()) =
  Tree.cond (b != (0:Int)) (.need (b ≠ (0:Int)) (.leaf (Sum.inl (n,d,(),b,Int.tmod a b,p,q,())))) (.leaf (Sum.inr (Exit.exit (0:Nat),Lay.st L_lowest_0 noU (n,d,(),a,p,q,())))):=by kernel_rfl
def inv_lowest:Int × Int × Unit × Int × Int × Int × Int × Unit → Prop:=fun (n,d,_,a,b,_) => 0 ≤ a ∧ 0 ≤ b ∧ gcdI a b = gcdI n d
def O_lowest:Int × Int × Unit × Int × Int × Int × Int × Unit → Tree (Exit × St):=fun (n,d,_,_,_,p,q,_) => .leaf (.exit 0,L_lowest_0.st noU (n,d,(),gcdI n d,p,q,()))
def R_lowest:LRun:=runOf 22 L_lowest (fun x => x) (inv_lowest) (O_lowest)
theorem K_lowest:LoopOk P [] 22 none noU C_lowest (R_lowest):=by
  refine loop_of hm (cx:=[]) [] (xl:=X_lowest) (α:=Int × Int × Unit × Int × Int × Int × Int × Unit) (fun x => x) (fun (_,_,_,_,b,_) => b.toNat) (fun _ => rfl) (by kernel_rfl) (by kernel_rfl) ?_ (by kernel_rfl) trivial ?_
  · intro e S L' h
    unfold X_lowest at h
    split at h <;> first | (cases h; done) | (cases h; kernel_rfl) | (rcases bif_some h with h | h <;> cases h <;> kernel_rfl)
  · rintro ⟨n,d,⟨⟩,a,b,p,q,⟨⟩⟩ hinv Q hQ
    refine hold_of_eq (B_lowest n d a b p q) ?_
    obtain ⟨h0,h1,h2⟩:=hinv
    refine ⟨fun h => ⟨by simpa using h,?_⟩,fun h => ?_⟩
    · have hb:0 < b:=by simp at h; omega
      have h3:0 ≤ Int.tmod a b:=Int.tmod_nonneg b h0
      refine ⟨⟨⟨by omega,h3,(gcdI_step h0 hb).trans h2⟩,?_⟩,hQ⟩
      have h4:Int.tmod a b < b:=Int.tmod_lt_of_pos a hb
      show Int.toNat (Int.tmod a b) < Int.toNat b
      omega
    · have hb:b = 0:=by simpa using h
      have e:a = gcdI n d:=by
        rw [← h2,hb]
        unfold gcdI
        simp only [Int.toNat_zero,Nat.gcd_zero_right]
        omega
      rw [e]
      exact hQ
theorem T_lowest (a b:Int):fnTree (P:=P) [] (lpOf [(0,R_lowest)]) Tryz.f128 (encL 0 [.val tI,.val tI] (a,b,())) =
  Tree.need (inv_lowest (a,b,(),a,b,(0:Int),(0:Int),())) (.need (gcdI a b ≠ (0:Int)) (.need (gcdI a b ≠ (0:Int)) (.leaf (SV.agg [SV.int IntKind.i64 (IntKind.i64.wrap (Int.tdiv a (gcdI a b))),SV.int IntKind.i64 (IntKind.i64.wrap (Int.tdiv b (gcdI a b)))])))):=by kernel_rfl
def c_lowest:PC P:=PC.of (α:=Int × Int × Unit) 128 [.val tI,.val tI] (fun x => x) (fun x => x) (fun _ => rfl)
  (fun x => some (0 ≤ x.1 ∧ 0 < x.2.1 ∧ R64 x.1 ∧ R64 x.2.1))
  (fun x => .agg [.int .i64 (lowS x.1 x.2.1).1,.int .i64 (lowS x.1 x.2.1).2]) (by kernel_rfl) (by
    rintro ⟨a,b,⟨⟩⟩ hp
    refine fn_of hm (by kernel_rfl) (by kernel_rfl) (T_lowest a b) ⟨K_lowest,trivial⟩ ?_
    obtain ⟨h0,h1,h2,h3⟩ : 0 ≤ a ∧ 0 < b ∧ R64 a ∧ R64 b:=hp
    unfold R64 at h2 h3
    have hg:=gcdI_pos (a:=a) h1
    have e1:=Int.tdiv_eq_ediv_of_nonneg h0 (b:=gcdI a b)
    have e2:=Int.tdiv_eq_ediv_of_nonneg (show 0 ≤ b by omega) (b:=gcdI a b)
    have b1:0 ≤ a / gcdI a b:=Int.ediv_nonneg h0 (by omega)
    have b2:0 ≤ b / gcdI a b:=Int.ediv_nonneg (by omega) (by omega)
    have b3:=Int.ediv_le_self (gcdI a b) h0
    have b4:=Int.ediv_le_self (gcdI a b) (show 0 ≤ b by omega)
    refine ⟨⟨h0,by omega,rfl⟩,by omega,by omega,?_⟩
    show SV.agg _ = SV.agg [.int .i64 (a / gcdI a b),.int .i64 (b / gcdI a b)]
    rw [e1,e2,W_id (by omega) (by omega),W_id (by omega) (by omega)])
theorem lagrange (v w:V):dotZ v w * dotZ v w ≤ dotZ v v * dotZ w w:=by
  obtain ⟨a,b,c⟩:=v
  obtain ⟨x,y,z⟩:=w
  have h1:=sq_nonneg (b * z - c * y)
  have h2:=sq_nonneg (c * x - a * z)
  have h3:=sq_nonneg (a * y - b * x)
  have e:(a * x + b * y + c * z) * (a * x + b * y + c * z) + ((b * z - c * y) * (b * z - c * y) + (c * x - a * z) * (c * x - a * z) + (a * y - b * x) * (a * y - b * x)) = (a * a + b * b + c * c) * (x * x + y * y + z * z):=by grind
  simp only [dotZ]
  omega
theorem schwarz {v w:V} {l m:Int} (hl:0 ≤ l) (hm:0 ≤ m) (h1:l * l = dotZ v v) (h2:m * m = dotZ w w) : -(l * m) ≤ dotZ v w ∧ dotZ v w ≤ l * m:=by
  refine sq_le (Int.mul_nonneg hl hm) ?_
  have:=lagrange v w
  rw [← h1,← h2] at this
  have e:l * m * (l * m) = l * l * (m * m):=by grind
  omega
def turnS (v w:V):Int × Int:=lowS ((wholeS v).1 * (wholeS w).1 - dotZ v w) ((wholeS v).1 * (wholeS w).1)
theorem turn_pre {v w:V} (hv:(legS v).2 = true) (hw:(legS w).2 = true) :
    vdot v w = dotZ v w ∧ 0 < (wholeS v).1 * (wholeS w).1 ∧ (wholeS v).1 * (wholeS w).1 ≤ 17179869184 ∧ 0 ≤ (wholeS v).1 * (wholeS w).1 - dotZ v w ∧ (wholeS v).1 * (wholeS w).1 - dotZ v w ≤ 34359738368:=by
  obtain ⟨h1,h2,h3⟩:=legS_true hv
  obtain ⟨k1,k2,k3⟩:=legS_true hw
  obtain ⟨h4,h5,h6,_,_⟩:=wholeS_true h1
  obtain ⟨k4,k5,k6,_,_⟩:=wholeS_true k1
  have hs:=schwarz h5 k5 h6 k6
  have hp:=Int.mul_pos (show 0 < (wholeS v).1 by omega) (show 0 < (wholeS w).1 by omega)
  have hq:=mulB (a:=(wholeS v).1) (b:=(wholeS w).1) (A:=131072) (B:=131072) (by omega) (by omega)
  refine ⟨vdot_eq h4 k4,hp,by omega,by omega,by omega⟩
theorem T_turn (x y z a b c:Int):fnTree (P:=P) [c_whole.gc,c_dot.gc,c_lowest.gc] (lpOf []) Tryz.f125 (encL 0 [.agg tV,.agg tV] ((x,y,z),(a,b,c),())) =
  Tree.need ((0:Int) ≤ IntKind.i64.wrap (IntKind.i64.wrap ((wholeS (x,y,z)).fst * (wholeS (a,b,c)).fst) - vdot (x,y,z) (a,b,c)) ∧ (0:Int) < IntKind.i64.wrap ((wholeS (x,y,z)).fst * (wholeS (a,b,c)).fst) ∧ R64 (IntKind.i64.wrap (IntKind.i64.wrap ((wholeS (x,y,z)).fst * (wholeS (a,b,c)).fst) - vdot (x,y,z) (a,b,c))) ∧ R64 (IntKind.i64.wrap ((wholeS (x,y,z)).fst * (wholeS (a,b,c)).fst))) (.leaf (SV.agg [SV.int IntKind.i64 (lowS (IntKind.i64.wrap (IntKind.i64.wrap ((wholeS (x,y,z)).fst * (wholeS (a,b,c)).fst) - vdot (x,y,z) (a,b,c))) (IntKind.i64.wrap ((wholeS (x,y,z)).fst * (wholeS (a,b,c)).fst))).fst,SV.int IntKind.i64 (lowS (IntKind.i64.wrap (IntKind.i64.wrap ((wholeS (x,y,z)).fst * (wholeS (a,b,c)).fst) - vdot (x,y,z) (a,b,c))) (IntKind.i64.wrap ((wholeS (x,y,z)).fst * (wholeS (a,b,c)).fst))).snd])):=by kernel_rfl
def c_turn:PC P:=PC.of (α:=V × V × Unit) 125 [.agg tV,.agg tV] (fun x => x) (fun x => x) (fun _ => rfl)
  (fun x => some ((legS x.1).2 = true ∧ (legS x.2.1).2 = true))
  (fun x => .agg [.int .i64 (turnS x.1 x.2.1).1,.int .i64 (turnS x.1 x.2.1).2]) (by kernel_rfl) (by
    rintro ⟨⟨x,y,z⟩,⟨a,b,c⟩,⟨⟩⟩ hp
    refine fn_of hm (by kernel_rfl) (by kernel_rfl) (T_turn x y z a b c) trivial ?_
    obtain ⟨h0,h1⟩ : (legS (x,y,z)).2 = true ∧ (legS (a,b,c)).2 = true:=hp
    obtain ⟨h2,h3,h4,h5,h6⟩:=turn_pre h0 h1
    rw [h2,W_id (n:=(wholeS (x,y,z)).1 * (wholeS (a,b,c)).1) (by omega) (by omega),W_id (n:=_ - dotZ _ _) (by omega) (by omega)]
    exact ⟨⟨h5,h3,⟨by omega,by omega⟩,⟨by omega,by omega⟩⟩,rfl⟩)
def TurnS (v w:V):(Int × Int) × Int:=if (legS v).2 = true ∧ (legS w).2 = true then (turnS v w,0) else ((0,0),3)
theorem T_Turn (x y z a b c:Int):fnTree (P:=P) [c_leg.gc,c_turn.gc] (lpOf []) Tryz.f115 (encL 0 [.agg tV,.agg tV] ((x,y,z),(a,b,c),())) =
  Tree.cond (!(legS (x,y,z)).snd) (.leaf (SV.tup [SV.agg [SV.int IntKind.i64 (0:Int),SV.int IntKind.i64 (0:Int)],SV.int IntKind.i64 (3:Int)])) (.cond (!(legS (a,b,c)).snd) (.leaf (SV.tup [SV.agg [SV.int IntKind.i64 (0:Int),SV.int IntKind.i64 (0:Int)],SV.int IntKind.i64 (3:Int)])) (.need ((legS (x,y,z)).snd = true ∧ (legS (a,b,c)).snd = true) (.leaf (SV.tup [SV.agg [SV.int IntKind.i64 (turnS (x,y,z) (a,b,c)).fst,SV.int IntKind.i64 (turnS (x,y,z) (a,b,c)).snd],SV.int IntKind.i64 (0:Int)])))):=by kernel_rfl
def c_Turn:PC P:=PC.of (α:=V × V × Unit) 115 [.agg tV,.agg tV] (fun x => x) (fun x => x) (fun _ => rfl)
  (fun _ => none)
  (fun x => .tup [.agg [.int .i64 (TurnS x.1 x.2.1).1.1,.int .i64 (TurnS x.1 x.2.1).1.2],.int .i64 (TurnS x.1 x.2.1).2]) (by kernel_rfl) (by
    rintro ⟨⟨x,y,z⟩,⟨a,b,c⟩,⟨⟩⟩ hp
    refine fn_of hm (by kernel_rfl) (by kernel_rfl) (T_Turn x y z a b c) trivial ?_
    show Tree.holds (fun s => s = SV.tup [.agg [.int .i64 (TurnS (x,y,z) (a,b,c)).1.1,.int .i64 (TurnS (x,y,z) (a,b,c)).1.2],.int .i64 (TurnS (x,y,z) (a,b,c)).2]) _
    unfold TurnS
    refine ⟨fun h => ?_,fun h => ⟨fun h2 => ?_,fun h2 => ⟨⟨by simpa using h,by simpa using h2⟩,?_⟩⟩⟩ <;> (show SV.tup _ = _; simp_all))
end
end Go.MP
