/- Whole numbers, vectors, roots: what the program's smallest functions compute. -/
import Derived.Test.YtdoobpeacbcohaaGreatFw4
import Derived.Test.YtdoobpeacbcohaaGreatProg
namespace Go.MP
open Go Go.Sx Go.Proofs
noncomputable section
abbrev P:Program:=Tryz.prog
theorem hm:P.follows .mixedOrders = true:=by kernel_rfl
theorem W_id {n:Int} (h1 : -9223372036854775808 ≤ n) (h2:n ≤ 9223372036854775807):IntKind.i64.wrap n = n:=by
  have e:IntKind.i64.wrap n = (if n % 18446744073709551616 ≥ 9223372036854775808 then n % 18446744073709551616 - 18446744073709551616 else n % 18446744073709551616):=by
    simp [IntKind.wrap,IntKind.signed,IntKind.bits]
  rw [e]
  split <;> omega
def R64 (n:Int):Prop:=-9223372036854775808 ≤ n ∧ n ≤ 9223372036854775807
abbrev tI:Ty:=.int .i64
abbrev tV:Ty:=.pair tI (.pair tI tI)
abbrev tVs:Ty:=.sl tV
abbrev tPath:Ty:=.pair tV tVs
abbrev tPart:Ty:=.pair tI tI
abbrev V:=Int × Int × Int
abbrev Pth:=V × List V
def vadd (v w:V):V:=(IntKind.i64.wrap (v.1 + w.1),IntKind.i64.wrap (v.2.1 + w.2.1),IntKind.i64.wrap (v.2.2 + w.2.2))
def vdot (v w:V):Int:=IntKind.i64.wrap (IntKind.i64.wrap (IntKind.i64.wrap (v.1 * w.1) + IntKind.i64.wrap (v.2.1 * w.2.1)) + IntKind.i64.wrap (v.2.2 * w.2.2))
def inB (v:V) (n:Int):Bool:=decide (-n ≤ v.1 ∧ v.1 ≤ n ∧ -n ≤ v.2.1 ∧ v.2.1 ≤ n ∧ -n ≤ v.2.2 ∧ v.2.2 ≤ n)
abbrev svV (v:V):SV:=.agg [.int .i64 v.1,.int .i64 v.2.1,.int .i64 v.2.2]
theorem T_plus (x y z a b c:Int):fnTree (P:=P) [] (lpOf []) Tryz.f73 (encL 0 [.agg tV,.agg tV] ((x,y,z),(a,b,c),())) =
  Tree.leaf (SV.agg [SV.int IntKind.i64 (IntKind.i64.wrap (x + a)),SV.int IntKind.i64 (IntKind.i64.wrap (y + b)),SV.int IntKind.i64 (IntKind.i64.wrap (z + c))]):=by kernel_rfl
def c_plus:PC P:=PC.of (α:=V × V × Unit) 73 [.agg tV,.agg tV] (fun x => x) (fun x => x) (fun _ => rfl)
  (fun _ => none)
  (fun x => svV (vadd x.1 x.2.1)) (by kernel_rfl)
  (by
    rintro ⟨⟨x,y,z⟩,⟨a,b,c⟩,⟨⟩⟩ _
    exact fn_of hm (by kernel_rfl) (by kernel_rfl) (T_plus x y z a b c) trivial rfl)
theorem T_dot (x y z a b c:Int):fnTree (P:=P) [] (lpOf []) Tryz.f72 (encL 0 [.agg tV,.agg tV] ((x,y,z),(a,b,c),())) =
  Tree.leaf (SV.int IntKind.i64 (IntKind.i64.wrap (IntKind.i64.wrap (IntKind.i64.wrap (x * a) + IntKind.i64.wrap (y * b)) + IntKind.i64.wrap (z * c)))):=by kernel_rfl
def c_dot:PC P:=PC.of (α:=V × V × Unit) 72 [.agg tV,.agg tV] (fun x => x) (fun x => x) (fun _ => rfl)
  (fun _ => none)
  (fun x => .int .i64 (vdot x.1 x.2.1)) (by kernel_rfl)
  (by
    rintro ⟨⟨x,y,z⟩,⟨a,b,c⟩,⟨⟩⟩ _
    exact fn_of hm (by kernel_rfl) (by kernel_rfl) (T_dot x y z a b c) trivial rfl)
theorem T_inside (x y z n:Int):fnTree (P:=P) [] (lpOf []) Tryz.f94 (encL 0 [.agg tV,.val tI] ((x,y,z),n,())) =
  Tree.cond (decide (minI (minI x y) z ≥ IntKind.i64.wrap ((0:Int) - n))) (.leaf (SV.bool (decide (maxI (maxI x y) z ≤ n)))) (.leaf (SV.bool false)):=by kernel_rfl
theorem le_minI {n a b:Int}:n ≤ minI a b ↔ n ≤ a ∧ n ≤ b:=by unfold minI; split <;> omega
theorem maxI_le {n a b:Int}:maxI a b ≤ n ↔ a ≤ n ∧ b ≤ n:=by unfold maxI; split <;> omega
def c_inside:PC P:=PC.of (α:=V × Int × Unit) 94 [.agg tV,.val tI] (fun x => x) (fun x => x) (fun _ => rfl)
  (fun x => some (0 ≤ x.2.1 ∧ x.2.1 < 2 ^ 62))
  (fun x => .bool (inB x.1 x.2.1)) (by kernel_rfl)
  (by
    rintro ⟨⟨x,y,z⟩,n,⟨⟩⟩ hp
    refine fn_of hm (by kernel_rfl) (by kernel_rfl) (T_inside x y z n) trivial ?_
    obtain ⟨h0,h1⟩ : 0 ≤ n ∧ n < 2 ^ 62:=hp
    rw [W_id (n:=0 - n) (by omega) (by omega)]
    refine ⟨fun h => ?_,fun h => ?_⟩
    · simp only [ge_iff_le,le_minI,decide_eq_true_eq] at h
      show SV.bool _ = _
      simp only [inB,maxI_le]
      congr 2
      exact propext (by omega)
    · simp only [ge_iff_le,le_minI,decide_eq_false_iff_not] at h
      show SV.bool _ = _
      simp only [inB]
      congr 1
      symm
      simp only [decide_eq_false_iff_not]
      omega)
def rootBits:Nat → Int → Int → Int
  | 0,_,r => r
  | k + 1,n,r => if (r + 2 ^ k) * (r + 2 ^ k) ≤ n then rootBits k n (r + 2 ^ k) else rootBits k n r
def isq (n:Int):Int:=rootBits 26 n 0
def rootS (n:Int):Int × Bool:=if n < 0 ∨ n > 1125899906842624 then (0,false) else if isq n * isq n ≠ n then (0,false) else (isq n,true)
theorem rootBits_ok:∀ (k:Nat) (n r:Int),0 ≤ r → r * r ≤ n → n < (r + 2 ^ k) * (r + 2 ^ k) → 0 ≤ rootBits k n r ∧ rootBits k n r * rootBits k n r ≤ n ∧ n < (rootBits k n r + 1) * (rootBits k n r + 1)
  | 0,n,r,h0,h1,h2 => ⟨h0,h1,h2⟩
  | k + 1,n,r,h0,h1,h2 => by
    unfold rootBits
    have hk:(0:Int) < 2 ^ k:=Int.pow_pos (by decide)
    split
    · rename_i h
      refine rootBits_ok k n _ (by omega) h ?_
      have e:r + 2 ^ k + 2 ^ k = r + 2 ^ (k + 1):=by rw [Int.pow_succ]; omega
      rw [e]; exact h2
    · rename_i h
      exact rootBits_ok k n r h0 h1 (by omega)
theorem sq_mono {a b:Int} (h0:0 ≤ a) (h:a ≤ b):a * a ≤ b * b:=Int.mul_le_mul h h h0 (by omega)
theorem isq_ok {n:Int} (h0:0 ≤ n) (h1:n ≤ 1125899906842624):0 ≤ isq n ∧ isq n * isq n ≤ n ∧ n < (isq n + 1) * (isq n + 1) :=
  rootBits_ok 26 n 0 (by omega) (by omega) (by omega)
def L_root:Lay:={ slots:=[(0,.val tI),(4,.val tI),(5,.val tI)] }
def L_root' : Lay:={ slots:=[(0,.val tI),(4,.val tI)] }
def X_root:Exit → St → Option Lay
  | .exit 0,_ => some L_root'
  | _,_ => none
theorem shr1 (b:Int):shrI .i64 b 1 = b / 2:=by
  show b.fdiv 2 = b / 2
  rw [Int.fdiv_eq_ediv_of_nonneg b (by decide)]
def inv_root:Int × Int × Int × Unit → Prop:=fun (n,r,b,_) => 0 ≤ n ∧ n ≤ 1125899906842624 ∧ 0 ≤ r ∧ r + 2 * b ≤ 67108864 ∧ ∃ k:Nat,b = 2 ^ k / 2 ∧ rootBits k n r = isq n
def O_root:Int × Int × Int × Unit → Tree (Exit × St):=fun (n,_,_,_) => .leaf (.exit 0,L_root'.st noU (n,isq n,()))
def R_root:LRun:=runOf 34 L_root (fun x => x) inv_root O_root
abbrev C_root:Code:=loopC (bodyOf Tryz.f95) 0
theorem B_root (n r b:Int):loopBodyA (P:=P) [] (lpOf []) [] 34 noU (inner C_root) L_root X_root (α:=Int × Int × Int × Unit) (fun x => x) (fun x => x) (n,r,b,()) =
  Tree.cond (decide (b > (0:Int))) (.cond (decide (IntKind.i64.wrap (IntKind.i64.wrap (r + b) * IntKind.i64.wrap (r + b)) ≤ n)) (.need ((0:Int) ≤ (1:Int)) (.leaf (Sum.inl (n,IntKind.i64.wrap (r + b),shrI IntKind.i64 b (1:Int),())))) (.need ((0:Int) ≤ (1:Int)) (.leaf (Sum.inl (n,r,shrI IntKind.i64 b (1:Int),()))))) (.leaf (Sum.inr (Exit.exit (0:Nat),Lay.st L_root' noU (n,r,())))):=by kernel_rfl
theorem K_root:LoopOk P [] 34 none noU C_root R_root:=by
  refine loop_of hm (cx:=[]) [] (xl:=X_root) (α:=Int × Int × Int × Unit) (fun x => x) (fun (_,_,b,_) => Int.toNat b) (fun _ => rfl) (by kernel_rfl) (by kernel_rfl) ?_ (by kernel_rfl) trivial ?_
  · intro e S L' h
    unfold X_root at h
    split at h <;> cases h
    kernel_rfl
  · rintro ⟨n,r,b,⟨⟩⟩ ⟨h0,h1,h2,h3,k,hb,hk⟩ Q hQ
    refine hold_of_eq (B_root n r b) ?_
    have hp:(0:Int) < 2 ^ k:=Int.pow_pos (by decide)
    cases k with
    | zero =>
      have hb0:b = 0:=hb
      subst hb0
      refine ⟨fun h => by simp at h,fun _ => ?_⟩
      have e:r = isq n:=hk
      rw [e]
      exact hQ
    | succ k =>
      have hp' : (0:Int) < 2 ^ k:=Int.pow_pos (by decide)
      have hb' : b = 2 ^ k:=by rw [hb,Int.pow_succ]; omega
      have hsq:(r + b) * (r + b) ≤ 67108864 * 67108864:=sq_mono (by omega) (by omega)
      have hsq0:0 ≤ (r + b) * (r + b):=Int.mul_nonneg (by omega) (by omega)
      rw [W_id (n:=r + b) (by omega) (by omega),W_id (n:=(r + b) * (r + b)) (by omega) (by omega),shr1]
      unfold rootBits at hk
      clear hb
      subst hb'
      refine ⟨fun _ => ⟨fun h => ⟨by decide,?_⟩,fun h => ⟨by decide,?_⟩⟩,fun h => by simp at h; omega⟩
      · simp only [decide_eq_true_eq] at h
        rw [if_pos h] at hk
        refine ⟨⟨⟨h0,h1,by omega,by omega,k,rfl,hk⟩,?_⟩,hQ⟩
        show Int.toNat (2 ^ k / 2) < Int.toNat (2 ^ k)
        omega
      · simp only [decide_eq_false_iff_not] at h
        rw [if_neg h] at hk
        refine ⟨⟨⟨h0,h1,h2,by omega,k,rfl,hk⟩,?_⟩,hQ⟩
        show Int.toNat (2 ^ k / 2) < Int.toNat (2 ^ k)
        omega
theorem T_root (n:Int):fnTree (P:=P) [] (lpOf [(0,R_root)]) Tryz.f95 (encL 0 [.val tI] (n,())) =
  Tree.cond (decide (n < (0:Int))) (.leaf (SV.tup [SV.int IntKind.i64 (0:Int),SV.bool false])) (.cond (decide (n > (1125899906842624:Int))) (.leaf (SV.tup [SV.int IntKind.i64 (0:Int),SV.bool false])) (.need (inv_root (n,(0:Int),(33554432:Int),())) (.cond (IntKind.i64.wrap (isq n * isq n) != n) (.leaf (SV.tup [SV.int IntKind.i64 (0:Int),SV.bool false])) (.leaf (SV.tup [SV.int IntKind.i64 (isq n),SV.bool true]))))):=by kernel_rfl
def c_root:PC P:=PC.of (α:=Int × Unit) 95 [.val tI] (fun x => x) (fun x => x) (fun _ => rfl)
  (fun _ => none)
  (fun x => .tup [.int .i64 (rootS x.1).1,.bool (rootS x.1).2]) (by kernel_rfl)
  (by
    rintro ⟨n,⟨⟩⟩ _
    refine fn_of hm (by kernel_rfl) (by kernel_rfl) (T_root n) ⟨K_root,trivial⟩ ?_
    show Tree.holds (fun s => s = SV.tup [.int .i64 (rootS n).1,.bool (rootS n).2]) _
    refine ⟨fun h => ?_,fun h => ⟨fun h1 => ?_,fun h1 => ?_⟩⟩
    all_goals simp only [decide_eq_true_eq,decide_eq_false_iff_not] at *
    · show SV.tup _ = _
      unfold rootS
      rw [if_pos (by omega)]
    · show SV.tup _ = _
      unfold rootS
      rw [if_pos (by omega)]
    · obtain ⟨h4,h5,h6⟩:=isq_ok (n:=n) (by omega) (by omega)
      have h7:0 ≤ isq n * isq n:=Int.mul_nonneg h4 h4
      rw [W_id (by omega) (by omega)]
      refine ⟨⟨by omega,by omega,by omega,by omega,26,by decide,rfl⟩,fun h2 => ?_,fun h2 => ?_⟩
      · show SV.tup _ = _
        unfold rootS
        rw [if_neg (by omega),if_pos (by simpa using h2)]
      · show SV.tup _ = _
        unfold rootS
        rw [if_neg (by omega),if_neg (by simpa using h2)])
end
end Go.MP
