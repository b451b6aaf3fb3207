/- The reference's forces. -/
import Derived.Test.YtoockflaeaknbaaGreatMvM
namespace Go.MP
open Go Go.Sx Go.Proofs
set_option linter.unusedVariables false
set_option linter.unusedSimpArgs false
noncomputable section
theorem T_Floor9 (a b:Int):fnTree (P:=P) [] (lpOf []) Tryz.f81 (encL 0 [.val tI,.val tI] (a,b,())) =
  Tree.need (b ≠ (0:Int)) (.need (b ≠ (0:Int)) (.cond (decide (Int.tmod a b < (0:Int))) (.leaf (SV.int IntKind.i64 (IntKind.i64.wrap (IntKind.i64.wrap (Int.tdiv a b) - (1:Int))))) (.leaf (SV.int IntKind.i64 (IntKind.i64.wrap (Int.tdiv a b)))))):=by kernel_rfl
def c_Floor9:PC P:=PC.of (α:=Int × Int × Unit) 81 [.val tI,.val tI] (fun x => x) (fun x => x) (fun _ => rfl)
  (fun x => some (0 < x.2.1 ∧ -9223372036854775808 < x.1 ∧ x.1 ≤ 9223372036854775807))
  (fun x => .int .i64 (x.1 / x.2.1)) (by kernel_rfl) (by
    rintro ⟨a,b,⟨⟩⟩ hp
    refine fn_of hm (by kernel_rfl) (by kernel_rfl) (T_Floor9 a b) trivial ?_
    try dsimp only at hp
    try dsimp only
    obtain ⟨h0,h1,h2⟩ : 0 < b ∧ -9223372036854775808 < a ∧ a ≤ 9223372036854775807:=hp
    have e:=floorW_eq h0 h1 h2
    unfold floorW at e
    refine ⟨by omega,by omega,fun c => ?_,fun c => ?_⟩
    · rw [if_pos (of_decide_eq_true c)] at e
      exact congrArg (SV.int .i64) e
    · rw [if_neg (of_decide_eq_false c)] at e
      exact congrArg (SV.int .i64) e)
theorem T_rdown (a b:Int):fnTree (P:=P) [c_Floor9.gc] (lpOf []) Tryz.f56 (encL 0 [.val tI,.val tI] (a,b,())) =
  Tree.need ((0:Int) < b ∧ (-9223372036854775808:Int) < a ∧ a ≤ (9223372036854775807:Int)) (.leaf (SV.int IntKind.i64 (a / b))):=by kernel_rfl
def c_rdown:PC P:=PC.of (α:=Int × Int × Unit) 56 [.val tI,.val tI] (fun x => x) (fun x => x) (fun _ => rfl)
  (fun x => some (0 < x.2.1 ∧ -9223372036854775808 < x.1 ∧ x.1 ≤ 9223372036854775807))
  (fun x => .int .i64 (x.1 / x.2.1)) (by kernel_rfl) (by
    rintro ⟨a,b,⟨⟩⟩ hp
    refine fn_of hm (by kernel_rfl) (by kernel_rfl) (T_rdown a b) trivial ?_
    try dsimp only at hp
    try dsimp only
    exact ⟨hp,rfl⟩)
theorem T_rup (a b:Int):fnTree (P:=P) [c_Floor9.gc] (lpOf []) Tryz.f72 (encL 0 [.val tI,.val tI] (a,b,())) =
  Tree.need ((0:Int) < b ∧ (-9223372036854775808:Int) < IntKind.i64.wrap ((0:Int) - a) ∧ IntKind.i64.wrap ((0:Int) - a) ≤ (9223372036854775807:Int)) (.leaf (SV.int IntKind.i64 (IntKind.i64.wrap ((0:Int) - IntKind.i64.wrap ((0:Int) - a) / b)))):=by kernel_rfl
def c_rup:PC P:=PC.of (α:=Int × Int × Unit) 72 [.val tI,.val tI] (fun x => x) (fun x => x) (fun _ => rfl)
  (fun x => some (0 < x.2.1 ∧ -9223372036854775808 < x.1 ∧ x.1 < 9223372036854775807))
  (fun x => .int .i64 (upS x.1 x.2.1)) (by kernel_rfl) (by
    rintro ⟨a,b,⟨⟩⟩ hp
    refine fn_of hm (by kernel_rfl) (by kernel_rfl) (T_rup a b) trivial ?_
    try dsimp only at hp
    try dsimp only
    obtain ⟨h0,h1,h2⟩ : 0 < b ∧ -9223372036854775808 < a ∧ a < 9223372036854775807:=hp
    have h3:=div_rng (x:=-a) (M:=9223372036854775807) h0 (by decide) (by omega) (by omega)
    rw [W_id (n:=0 - a) (by omega) (by omega),Int.zero_sub,W_id (n:=0 - -a / b) (by omega) (by omega),Int.zero_sub]
    exact ⟨⟨h0,by omega,by omega⟩,rfl⟩)
theorem T_rabs (n:Int):fnTree (P:=P) [] (lpOf []) Tryz.f92 (encL 0 [.val tI] (n,())) =
  Tree.leaf (SV.int IntKind.i64 (maxI n (IntKind.i64.wrap ((0:Int) - n)))):=by kernel_rfl
def c_rabs:PC P:=PC.of (α:=Int × Unit) 92 [.val tI] (fun x => x) (fun x => x) (fun _ => rfl)
  (fun x => some (-9223372036854775808 < x.1 ∧ x.1 ≤ 9223372036854775807))
  (fun x => .int .i64 (absI x.1)) (by kernel_rfl) (by
    rintro ⟨n,⟨⟩⟩ hp
    refine fn_of hm (by kernel_rfl) (by kernel_rfl) (T_rabs n) trivial ?_
    try dsimp only at hp
    try dsimp only
    obtain ⟨h0,h1⟩ : -9223372036854775808 < n ∧ n ≤ 9223372036854775807:=hp
    show SV.int _ _ = SV.int _ (absI n)
    unfold absI
    rw [W_id (n:=0 - n) (by omega) (by omega),Int.zero_sub])
theorem drag_rng {t m b:Int} (h0:0 ≤ t) (h1:t ≤ 17592186044416) (h2:0 ≤ m) (h3:m ≤ 600) (h4:0 ≤ b) (h5:b ≤ 2000001) :
    (0 ≤ m * b ∧ m * b ≤ 1200000600) ∧ (0 ≤ t / 1000000 * (m * b) ∧ t / 1000000 * (m * b) ≤ 21110623253299200 + 12000006000) ∧ (0 ≤ t % 1000000 * (m * b) ∧ t % 1000000 * (m * b) ≤ 1200000600000000):=by
  have k:=mul_rng h2 h3 h4 h5
  have x:=mul_rng (a:=t / 1000000) (b:=m * b) (A:=17592187) (B:=1200000600) (by omega) (by omega) k.1 (by omega)
  have y:=mul_rng (a:=t % 1000000) (b:=m * b) (A:=1000000) (B:=1200000600) (by omega) (by omega) k.1 (by omega)
  omega
theorem T_rlower (t m b:Int):fnTree (P:=P) [c_rdown.gc] (lpOf []) Tryz.f91 (encL 0 [.val tI,.val tI,.val tI] (t,m,b,())) =
  Tree.need ((1000000:Int) ≠ (0:Int)) (.need ((1000000:Int) ≠ (0:Int)) (.need ((0:Int) < (1000000:Int) ∧ (-9223372036854775808:Int) < IntKind.i64.wrap (Int.tmod t (1000000:Int) * IntKind.i64.wrap (m * b)) ∧ IntKind.i64.wrap (Int.tmod t (1000000:Int) * IntKind.i64.wrap (m * b)) ≤ (9223372036854775807:Int)) (.need ((0:Int) < (1000:Int) ∧ (-9223372036854775808:Int) < IntKind.i64.wrap (IntKind.i64.wrap (IntKind.i64.wrap (Int.tdiv t (1000000:Int)) * IntKind.i64.wrap (m * b)) + IntKind.i64.wrap (Int.tmod t (1000000:Int) * IntKind.i64.wrap (m * b)) / (1000000:Int)) ∧ IntKind.i64.wrap (IntKind.i64.wrap (IntKind.i64.wrap (Int.tdiv t (1000000:Int)) * IntKind.i64.wrap (m * b)) + IntKind.i64.wrap (Int.tmod t (1000000:Int) * IntKind.i64.wrap (m * b)) / (1000000:Int)) ≤ (9223372036854775807:Int)) (.leaf (SV.int IntKind.i64 (IntKind.i64.wrap (IntKind.i64.wrap (IntKind.i64.wrap (Int.tdiv t (1000000:Int)) * IntKind.i64.wrap (m * b)) + IntKind.i64.wrap (Int.tmod t (1000000:Int) * IntKind.i64.wrap (m * b)) / (1000000:Int)) / (1000:Int))))))):=by kernel_rfl
def c_rlower:PC P:=PC.of (α:=Int × Int × Int × Unit) 91 [.val tI,.val tI,.val tI] (fun x => x) (fun x => x) (fun _ => rfl)
  (fun x => some (0 ≤ x.1 ∧ x.1 ≤ 17592186044416 ∧ 0 ≤ x.2.1 ∧ x.2.1 ≤ 600 ∧ 0 ≤ x.2.2.1 ∧ x.2.2.1 ≤ 2000001))
  (fun x => .int .i64 (lowS9 x.1 x.2.1 x.2.2.1)) (by kernel_rfl) (by
    rintro ⟨t,m,b,⟨⟩⟩ hp
    refine fn_of hm (by kernel_rfl) (by kernel_rfl) (T_rlower t m b) trivial ?_
    try dsimp only at hp
    try dsimp only
    obtain ⟨h0,h1,h2,h3,h4,h5⟩ : 0 ≤ t ∧ t ≤ 17592186044416 ∧ 0 ≤ m ∧ m ≤ 600 ∧ 0 ≤ b ∧ b ≤ 2000001:=hp
    obtain ⟨k1,k2,k3⟩:=drag_rng h0 h1 h2 h3 h4 h5
    rw [Int.tdiv_eq_ediv_of_nonneg h0,Int.tmod_eq_emod_of_nonneg h0,W_id (n:=t / 1000000) (by omega) (by omega),W_id (n:=m * b) (by omega) (by omega),W_id (n:=t / 1000000 * (m * b)) (by omega) (by omega),W_id (n:=t % 1000000 * (m * b)) (by omega) (by omega)]
    rw [W_id (n:=t / 1000000 * (m * b) + t % 1000000 * (m * b) / 1000000) (by omega) (by omega)]
    exact ⟨by decide,by decide,⟨by decide,by omega,by omega⟩,⟨by decide,by omega,by omega⟩,congrArg (SV.int .i64) (lowS9_ref t m b).symm⟩)
theorem T_rupper (t m b:Int):fnTree (P:=P) [c_rup.gc] (lpOf []) Tryz.f93 (encL 0 [.val tI,.val tI,.val tI] (t,m,b,())) =
  Tree.need ((1000000:Int) ≠ (0:Int)) (.need ((1000000:Int) ≠ (0:Int)) (.need ((0:Int) < (1000000:Int) ∧ (-9223372036854775808:Int) < IntKind.i64.wrap (Int.tmod t (1000000:Int) * IntKind.i64.wrap (m * b)) ∧ IntKind.i64.wrap (Int.tmod t (1000000:Int) * IntKind.i64.wrap (m * b)) < (9223372036854775807:Int)) (.need ((0:Int) < (1000:Int) ∧ (-9223372036854775808:Int) < IntKind.i64.wrap (IntKind.i64.wrap (IntKind.i64.wrap (Int.tdiv t (1000000:Int)) * IntKind.i64.wrap (m * b)) + upS (IntKind.i64.wrap (Int.tmod t (1000000:Int) * IntKind.i64.wrap (m * b))) (1000000:Int)) ∧ IntKind.i64.wrap (IntKind.i64.wrap (IntKind.i64.wrap (Int.tdiv t (1000000:Int)) * IntKind.i64.wrap (m * b)) + upS (IntKind.i64.wrap (Int.tmod t (1000000:Int) * IntKind.i64.wrap (m * b))) (1000000:Int)) < (9223372036854775807:Int)) (.leaf (SV.int IntKind.i64 (upS (IntKind.i64.wrap (IntKind.i64.wrap (IntKind.i64.wrap (Int.tdiv t (1000000:Int)) * IntKind.i64.wrap (m * b)) + upS (IntKind.i64.wrap (Int.tmod t (1000000:Int) * IntKind.i64.wrap (m * b))) (1000000:Int))) (1000:Int))))))):=by kernel_rfl
def c_rupper:PC P:=PC.of (α:=Int × Int × Int × Unit) 93 [.val tI,.val tI,.val tI] (fun x => x) (fun x => x) (fun _ => rfl)
  (fun x => some (0 ≤ x.1 ∧ x.1 ≤ 17592186044416 ∧ 0 ≤ x.2.1 ∧ x.2.1 ≤ 600 ∧ 0 ≤ x.2.2.1 ∧ x.2.2.1 ≤ 2000001))
  (fun x => .int .i64 (upS9 x.1 x.2.1 x.2.2.1)) (by kernel_rfl) (by
    rintro ⟨t,m,b,⟨⟩⟩ hp
    refine fn_of hm (by kernel_rfl) (by kernel_rfl) (T_rupper t m b) trivial ?_
    try dsimp only at hp
    try dsimp only
    obtain ⟨h0,h1,h2,h3,h4,h5⟩ : 0 ≤ t ∧ t ≤ 17592186044416 ∧ 0 ≤ m ∧ m ≤ 600 ∧ 0 ≤ b ∧ b ≤ 2000001:=hp
    obtain ⟨k1,k2,k3⟩:=drag_rng h0 h1 h2 h3 h4 h5
    rw [Int.tdiv_eq_ediv_of_nonneg h0,Int.tmod_eq_emod_of_nonneg h0,W_id (n:=t / 1000000) (by omega) (by omega),W_id (n:=m * b) (by omega) (by omega),W_id (n:=t / 1000000 * (m * b)) (by omega) (by omega),W_id (n:=t % 1000000 * (m * b)) (by omega) (by omega)]
    have hu:0 ≤ upS (t % 1000000 * (m * b)) 1000000 ∧ upS (t % 1000000 * (m * b)) 1000000 ≤ 1200000601:=by unfold upS; omega
    rw [W_id (n:=t / 1000000 * (m * b) + upS (t % 1000000 * (m * b)) 1000000) (by omega) (by omega)]
    exact ⟨by decide,by decide,⟨by decide,by omega,by omega⟩,⟨by decide,by omega,by omega⟩,congrArg (SV.int .i64) (upS9_ref t m b).symm⟩)
theorem T_rout (t_0 t_1:Int):fnTree (P:=P) [] (lpOf []) Tryz.f71 (encL 0 [.agg tPart] ((t_0,t_1),())) =
  Tree.cond (decide (t_0 < (-4398046511104:Int))) (.leaf (SV.bool true)) (.leaf (SV.bool (decide (t_1 > (4398046511104:Int))))):=by kernel_rfl
def c_rout:PC P:=PC.of (α:=(Int × Int) × Unit) 71 [.agg tPart] (fun x => x) (fun x => x) (fun _ => rfl)
  (fun _ => none)
  (fun x => .bool (decide (x.1.1 < -4398046511104) || decide (x.1.2 > 4398046511104))) (by kernel_rfl) (by
    rintro ⟨⟨t_0,t_1⟩,⟨⟩⟩ hp
    refine fn_of hm (by kernel_rfl) (by kernel_rfl) (T_rout t_0 t_1) trivial ?_
    try dsimp only at hp
    try dsimp only
    refine ⟨fun c1 => ?_,fun c1 => ?_⟩
    · exact congrArg SV.bool (by rw [c1,Bool.true_or])
    · exact congrArg SV.bool (by rw [c1,Bool.false_or]))
def hgH (x:Hg):H4:=(x.2.1.1,x.2.1.2,x.2.2.1,x.2.2.2)
theorem T_rbent (x_0 x_1 x_2 x_3 x_4 c_0 c_1 c_2 c_3 c_4 b_0 b_1 d:Int):fnTree (P:=P) [c_rabs.gc,c_rlower.gc,c_rupper.gc,c_rdown.gc,c_rup.gc] (lpOf []) Tryz.f69 (encL 0 [.agg (.pair tI (.pair tPart tPart)),.agg (.pair tI (.pair tI (.pair tPart tI))),.agg tPart,.val tI] ((x_0,((x_1,x_2),(x_3,x_4))),(c_0,(c_1,((c_2,c_3),c_4))),(b_0,b_1),d,())) =
  Tree.cond (c_0 == (1:Int)) (.need ((-9223372036854775808:Int) < x_1 ∧ x_1 ≤ (9223372036854775807:Int)) (.need ((0:Int) ≤ absI x_1 ∧ absI x_1 ≤ (17592186044416:Int) ∧ (0:Int) ≤ c_2 ∧ c_2 ≤ (600:Int) ∧ (0:Int) ≤ b_0 ∧ b_0 ≤ (2000001:Int)) (.need ((-9223372036854775808:Int) < x_2 ∧ x_2 ≤ (9223372036854775807:Int)) (.need ((0:Int) ≤ absI x_2 ∧ absI x_2 ≤ (17592186044416:Int) ∧ (0:Int) ≤ c_3 ∧ c_3 ≤ (600:Int) ∧ (0:Int) ≤ b_1 ∧ b_1 ≤ (2000001:Int)) (.leaf (SV.agg [SV.int IntKind.i64 x_0,SV.int IntKind.i64 (IntKind.i64.wrap (x_1 + lowS9 (absI x_1) c_2 b_0)),SV.int IntKind.i64 (IntKind.i64.wrap (x_2 + upS9 (absI x_2) c_3 b_1)),SV.int IntKind.i64 x_3,SV.int IntKind.i64 x_4])))))) (.cond (c_0 == (2:Int)) (.need ((-9223372036854775808:Int) < x_1 ∧ x_1 ≤ (9223372036854775807:Int)) (.need ((0:Int) ≤ absI x_1 ∧ absI x_1 ≤ (17592186044416:Int) ∧ (0:Int) ≤ c_3 ∧ c_3 ≤ (600:Int) ∧ (0:Int) ≤ b_1 ∧ b_1 ≤ (2000001:Int)) (.need ((-9223372036854775808:Int) < x_2 ∧ x_2 ≤ (9223372036854775807:Int)) (.need ((0:Int) ≤ absI x_2 ∧ absI x_2 ≤ (17592186044416:Int) ∧ (0:Int) ≤ c_2 ∧ c_2 ≤ (600:Int) ∧ (0:Int) ≤ b_0 ∧ b_0 ≤ (2000001:Int)) (.leaf (SV.agg [SV.int IntKind.i64 x_0,SV.int IntKind.i64 (IntKind.i64.wrap (x_1 - upS9 (absI x_1) c_3 b_1)),SV.int IntKind.i64 (IntKind.i64.wrap (x_2 - lowS9 (absI x_2) c_2 b_0)),SV.int IntKind.i64 x_3,SV.int IntKind.i64 x_4])))))) (.cond (c_0 == (3:Int)) (.need ((-9223372036854775808:Int) < x_1 ∧ x_1 ≤ (9223372036854775807:Int)) (.need ((-9223372036854775808:Int) < x_2 ∧ x_2 ≤ (9223372036854775807:Int)) (.cond (decide (x_1 ≤ (0:Int))) (.cond (decide (x_2 ≥ (0:Int))) (.need ((-9223372036854775808:Int) < x_1 ∧ x_1 ≤ (9223372036854775807:Int)) (.need ((-9223372036854775808:Int) < x_2 ∧ x_2 ≤ (9223372036854775807:Int)) (.need ((0:Int) ≤ (0:Int) ∧ (0:Int) ≤ (17592186044416:Int) ∧ (0:Int) ≤ c_2 ∧ c_2 ≤ (600:Int) ∧ (0:Int) ≤ b_0 ∧ b_0 ≤ (2000001:Int)) (.need ((0:Int) < (2:Int) ∧ (-9223372036854775808:Int) < IntKind.i64.wrap (lowS9 (0:Int) c_2 b_0 * d) ∧ IntKind.i64.wrap (lowS9 (0:Int) c_2 b_0 * d) ≤ (9223372036854775807:Int)) (.need ((0:Int) ≤ maxI (absI x_1) (absI x_2) ∧ maxI (absI x_1) (absI x_2) ≤ (17592186044416:Int) ∧ (0:Int) ≤ c_3 ∧ c_3 ≤ (600:Int) ∧ (0:Int) ≤ b_1 ∧ b_1 ≤ (2000001:Int)) (.need ((0:Int) < (2:Int) ∧ (-9223372036854775808:Int) < IntKind.i64.wrap (upS9 (maxI (absI x_1) (absI x_2)) c_3 b_1 * d) ∧ IntKind.i64.wrap (upS9 (maxI (absI x_1) (absI x_2)) c_3 b_1 * d) < (9223372036854775807:Int)) (.leaf (SV.agg [SV.int IntKind.i64 x_0,SV.int IntKind.i64 x_1,SV.int IntKind.i64 x_2,SV.int IntKind.i64 (IntKind.i64.wrap (x_3 + IntKind.i64.wrap (lowS9 (0:Int) c_2 b_0 * d) / (2:Int))),SV.int IntKind.i64 (IntKind.i64.wrap (x_4 + upS (IntKind.i64.wrap (upS9 (maxI (absI x_1) (absI x_2)) c_3 b_1 * d)) (2:Int)))])))))))) (.need ((-9223372036854775808:Int) < x_1 ∧ x_1 ≤ (9223372036854775807:Int)) (.need ((-9223372036854775808:Int) < x_2 ∧ x_2 ≤ (9223372036854775807:Int)) (.need ((0:Int) ≤ minI (absI x_1) (absI x_2) ∧ minI (absI x_1) (absI x_2) ≤ (17592186044416:Int) ∧ (0:Int) ≤ c_2 ∧ c_2 ≤ (600:Int) ∧ (0:Int) ≤ b_0 ∧ b_0 ≤ (2000001:Int)) (.need ((0:Int) < (2:Int) ∧ (-9223372036854775808:Int) < IntKind.i64.wrap (lowS9 (minI (absI x_1) (absI x_2)) c_2 b_0 * d) ∧ IntKind.i64.wrap (lowS9 (minI (absI x_1) (absI x_2)) c_2 b_0 * d) ≤ (9223372036854775807:Int)) (.need ((0:Int) ≤ maxI (absI x_1) (absI x_2) ∧ maxI (absI x_1) (absI x_2) ≤ (17592186044416:Int) ∧ (0:Int) ≤ c_3 ∧ c_3 ≤ (600:Int) ∧ (0:Int) ≤ b_1 ∧ b_1 ≤ (2000001:Int)) (.need ((0:Int) < (2:Int) ∧ (-9223372036854775808:Int) < IntKind.i64.wrap (upS9 (maxI (absI x_1) (absI x_2)) c_3 b_1 * d) ∧ IntKind.i64.wrap (upS9 (maxI (absI x_1) (absI x_2)) c_3 b_1 * d) < (9223372036854775807:Int)) (.leaf (SV.agg [SV.int IntKind.i64 x_0,SV.int IntKind.i64 x_1,SV.int IntKind.i64 x_2,SV.int IntKind.i64 (IntKind.i64.wrap (x_3 + IntKind.i64.wrap (lowS9 (minI (absI x_1) (absI x_2)) c_2 b_0 * d) / (2:Int))),SV.int IntKind.i64 (IntKind.i64.wrap (x_4 + upS (IntKind.i64.wrap (upS9 (maxI (absI x_1) (absI x_2)) c_3 b_1 * d)) (2:Int)))]))))))))) (.need ((-9223372036854775808:Int) < x_1 ∧ x_1 ≤ (9223372036854775807:Int)) (.need ((-9223372036854775808:Int) < x_2 ∧ x_2 ≤ (9223372036854775807:Int)) (.need ((0:Int) ≤ minI (absI x_1) (absI x_2) ∧ minI (absI x_1) (absI x_2) ≤ (17592186044416:Int) ∧ (0:Int) ≤ c_2 ∧ c_2 ≤ (600:Int) ∧ (0:Int) ≤ b_0 ∧ b_0 ≤ (2000001:Int)) (.need ((0:Int) < (2:Int) ∧ (-9223372036854775808:Int) < IntKind.i64.wrap (lowS9 (minI (absI x_1) (absI x_2)) c_2 b_0 * d) ∧ IntKind.i64.wrap (lowS9 (minI (absI x_1) (absI x_2)) c_2 b_0 * d) ≤ (9223372036854775807:Int)) (.need ((0:Int) ≤ maxI (absI x_1) (absI x_2) ∧ maxI (absI x_1) (absI x_2) ≤ (17592186044416:Int) ∧ (0:Int) ≤ c_3 ∧ c_3 ≤ (600:Int) ∧ (0:Int) ≤ b_1 ∧ b_1 ≤ (2000001:Int)) (.need ((0:Int) < (2:Int) ∧ (-9223372036854775808:Int) < IntKind.i64.wrap (upS9 (maxI (absI x_1) (absI x_2)) c_3 b_1 * d) ∧ IntKind.i64.wrap (upS9 (maxI (absI x_1) (absI x_2)) c_3 b_1 * d) < (9223372036854775807:Int)) (.leaf (SV.agg [SV.int IntKind.i64 x_0,SV.int IntKind.i64 x_1,SV.int IntKind.i64 x_2,SV.int IntKind.i64 (IntKind.i64.wrap (x_3 + IntKind.i64.wrap (lowS9 (minI (absI x_1) (absI x_2)) c_2 b_0 * d) / (2:Int))),SV.int IntKind.i64 (IntKind.i64.wrap (x_4 + upS (IntKind.i64.wrap (upS9 (maxI (absI x_1) (absI x_2)) c_3 b_1 * d)) (2:Int)))]))))))))))) (.leaf (SV.agg [SV.int IntKind.i64 x_0,SV.int IntKind.i64 x_1,SV.int IntKind.i64 x_2,SV.int IntKind.i64 x_3,SV.int IntKind.i64 x_4])))):=by kernel_rfl
def c_rbent:PC P:=PC.of (α:=(Int × ((Int × Int) × (Int × Int))) × (Int × (Int × ((Int × Int) × Int))) × (Int × Int) × Int × Unit) 69 [.agg (.pair tI (.pair tPart tPart)),.agg (.pair tI (.pair tI (.pair tPart tI))),.agg tPart,.val tI] (fun x => x) (fun x => x) (fun _ => rfl)
  (fun x => some ((OkX x.1.2.1.1 x.1.2.1.2 ∧ OkMu x.2.1.2.2.1 ∧ OkB x.2.2.1) ∧ (2 ≤ x.2.2.2.1 ∧ x.2.2.2.1 ≤ 90) ∧ 1 ≤ x.2.1.1 ∧ x.2.1.1 ≤ 3))
  (fun x => .agg [.int .i64 x.1.1,.int .i64 (bentS x.2.1.1 x.2.1.2.2.1 x.2.2.1 x.2.2.2.1 (hgH x.1)).1,.int .i64 (bentS x.2.1.1 x.2.1.2.2.1 x.2.2.1 x.2.2.2.1 (hgH x.1)).2.1,.int .i64 (bentS x.2.1.1 x.2.1.2.2.1 x.2.2.1 x.2.2.2.1 (hgH x.1)).2.2.1,.int .i64 (bentS x.2.1.1 x.2.1.2.2.1 x.2.2.1 x.2.2.2.1 (hgH x.1)).2.2.2]) (by kernel_rfl) (by
    rintro ⟨⟨x_0,⟨⟨x_1,x_2⟩,⟨x_3,x_4⟩⟩⟩,⟨c_0,⟨c_1,⟨⟨c_2,c_3⟩,c_4⟩⟩⟩,⟨b_0,b_1⟩,d,⟨⟩⟩ hp
    refine fn_of hm (by kernel_rfl) (by kernel_rfl) (T_rbent x_0 x_1 x_2 x_3 x_4 c_0 c_1 c_2 c_3 c_4 b_0 b_1 d) trivial ?_
    try dsimp only at hp
    try dsimp only
    obtain ⟨⟨hx,hm,hb⟩,⟨ho1,ho2⟩,hc1,hc2⟩ : (OkX x_1 x_2 ∧ OkMu (c_2,c_3) ∧ OkB (b_0,b_1)) ∧ (2 ≤ d ∧ d ≤ 90) ∧ 1 ≤ c_0 ∧ c_0 ≤ 3:=hp
    obtain ⟨k1,k2⟩:=hm.k hb
    have hl:=least_rng hx
    obtain ⟨hx1,hx2,hx3⟩:=hx
    obtain ⟨hm1,hm2,hm3⟩:=hm
    obtain ⟨hb1,hb2,hb3⟩:=hb
    dsimp only at k1 k2 hm1 hm2 hm3 hb1 hb2 hb3
    have a1:=abs_rng (n:=x_1) hx1 (by omega)
    have a2:=abs_rng (n:=x_2) (by omega) hx3
    have a3:0 ≤ maxI (absI x_1) (absI x_2) ∧ maxI (absI x_1) (absI x_2) ≤ 4398046511104:=by rw [maxI_eq]; omega
    have a4:0 ≤ minI (absI x_1) (absI x_2) ∧ minI (absI x_1) (absI x_2) ≤ 4398046511104:=by rw [minI_eq]; omega
    have n1 : -9223372036854775808 < x_1 ∧ x_1 ≤ 9223372036854775807:=by omega
    have n2 : -9223372036854775808 < x_2 ∧ x_2 ≤ 9223372036854775807:=by omega
    unfold hgH
    dsimp only
    obtain rfl | rfl | rfl:c_0 = 1 ∨ c_0 = 2 ∨ c_0 = 3:=by omega
    · have r1:=low_rng a1.1 k1.1 k1.2
      have r2:=up_rng a2.1 k2.1 k2.2
      simp only [bent1]
      rw [W_id (n:=x_1 + lowS9 (absI x_1) c_2 b_0) (by omega) (by omega),W_id (n:=x_2 + upS9 (absI x_2) c_3 b_1) (by omega) (by omega)]
      exact ⟨fun _ => ⟨n1,by omega,n2,by omega,rfl⟩,fun c => absurd c (by decide)⟩
    · have r1:=up_rng a1.1 k2.1 k2.2
      have r2:=low_rng a2.1 k1.1 k1.2
      simp only [bent2]
      rw [W_id (n:=x_1 - upS9 (absI x_1) c_3 b_1) (by omega) (by omega),W_id (n:=x_2 - lowS9 (absI x_2) c_2 b_0) (by omega) (by omega)]
      exact ⟨fun c => absurd c (by decide),fun _ => ⟨fun _ => ⟨n1,by omega,n2,by omega,rfl⟩,fun c => absurd c (by decide)⟩⟩
    · have r1:=up_rng a3.1 k2.1 k2.2
      have r2:=mul_rng (b:=d) r1.1 r1.2 (by omega) ho2
      have s1:=low_rng hl.1 k1.1 k1.2
      have s2:=mul_rng (b:=d) s1.1 s1.2 (by omega) ho2
      simp only [bent3]
      have u1:0 ≤ maxI (absI x_1) (absI x_2) ∧ maxI (absI x_1) (absI x_2) ≤ 17592186044416 ∧ 0 ≤ c_3 ∧ c_3 ≤ 600 ∧ 0 ≤ b_1 ∧ b_1 ≤ 2000001:=by omega
      rw [W_id (n:=upS9 (maxI (absI x_1) (absI x_2)) c_3 b_1 * d) (by omega) (by omega)]
      have u2:(0:Int) < 2 ∧ -9223372036854775808 < upS9 (maxI (absI x_1) (absI x_2)) c_3 b_1 * d ∧ upS9 (maxI (absI x_1) (absI x_2)) c_3 b_1 * d < 9223372036854775807:=by omega
      have low:∀ e:Int,leastS x_1 x_2 = e → (0 ≤ e ∧ e ≤ 17592186044416 ∧ 0 ≤ c_2 ∧ c_2 ≤ 600 ∧ 0 ≤ b_0 ∧ b_0 ≤ 2000001) ∧ IntKind.i64.wrap (lowS9 e c_2 b_0 * d) = lowS9 e c_2 b_0 * d ∧ ((0:Int) < 2 ∧ -9223372036854775808 < lowS9 e c_2 b_0 * d ∧ lowS9 e c_2 b_0 * d ≤ 9223372036854775807):=by
        rintro e rfl
        refine ⟨by omega,W_id (by omega) (by omega),by omega⟩
      refine ⟨fun c => absurd c (by decide),fun _ => ⟨fun c => absurd c (by decide),fun _ => ⟨fun _ => ⟨n1,n2,?_⟩,fun c => absurd c (by decide)⟩⟩⟩
      refine ⟨fun c1 => ⟨fun c2 => ?_,fun c2 => ?_⟩,fun c1 => ?_⟩
      all_goals simp only [decide_eq_true_eq,decide_eq_false_iff_not] at *
      · have e:leastS x_1 x_2 = 0:=by unfold leastS; rw [if_pos ⟨c1,c2⟩]
        obtain ⟨v1,v2,v3⟩:=low _ e
        rw [e,v2]
        exact ⟨n1,n2,v1,v3,u1,u2,rfl⟩
      · have e:leastS x_1 x_2 = minI (absI x_1) (absI x_2):=by unfold leastS; rw [if_neg (by omega)]
        obtain ⟨v1,v2,v3⟩:=low _ e
        rw [e,v2]
        exact ⟨n1,n2,v1,v3,u1,u2,rfl⟩
      · have e:leastS x_1 x_2 = minI (absI x_1) (absI x_2):=by unfold leastS; rw [if_neg (by omega)]
        obtain ⟨v1,v2,v3⟩:=low _ e
        rw [e,v2]
        exact ⟨n1,n2,v1,v3,u1,u2,rfl⟩)
theorem T_rrubbed (x_0 x_1 x_2 x_3 x_4 c_0 c_1 c_2 c_3 c_4 w n e_0 e_1 d:Int):fnTree (P:=P) [c_rdown.gc,c_rup.gc] (lpOf []) Tryz.f73 (encL 0 [.agg (.pair tI (.pair tPart tPart)),.agg (.pair tI (.pair tI (.pair tPart tI))),.val tI,.val tI,.agg tPart,.val tI] ((x_0,((x_1,x_2),(x_3,x_4))),(c_0,(c_1,((c_2,c_3),c_4))),w,n,(e_0,e_1),d,())) =
  Tree.need ((0:Int) < n ∧ (-9223372036854775808:Int) < IntKind.i64.wrap (w * e_0) ∧ IntKind.i64.wrap (w * e_0) ≤ (9223372036854775807:Int)) (.need ((0:Int) < (1000:Int) ∧ (-9223372036854775808:Int) < IntKind.i64.wrap (IntKind.i64.wrap (w * e_0) / n * c_2) ∧ IntKind.i64.wrap (IntKind.i64.wrap (w * e_0) / n * c_2) ≤ (9223372036854775807:Int)) (.need ((0:Int) < n ∧ (-9223372036854775808:Int) < IntKind.i64.wrap (w * e_1) ∧ IntKind.i64.wrap (w * e_1) < (9223372036854775807:Int)) (.need ((0:Int) < (1000:Int) ∧ (-9223372036854775808:Int) < IntKind.i64.wrap (upS (IntKind.i64.wrap (w * e_1)) n * c_3) ∧ IntKind.i64.wrap (upS (IntKind.i64.wrap (w * e_1)) n * c_3) < (9223372036854775807:Int)) (.cond (c_0 == (1:Int)) (.leaf (SV.agg [SV.int IntKind.i64 x_0,SV.int IntKind.i64 (IntKind.i64.wrap (x_1 + IntKind.i64.wrap (IntKind.i64.wrap (w * e_0) / n * c_2) / (1000:Int))),SV.int IntKind.i64 (IntKind.i64.wrap (x_2 + upS (IntKind.i64.wrap (upS (IntKind.i64.wrap (w * e_1)) n * c_3)) (1000:Int))),SV.int IntKind.i64 x_3,SV.int IntKind.i64 x_4])) (.cond (c_0 == (2:Int)) (.leaf (SV.agg [SV.int IntKind.i64 x_0,SV.int IntKind.i64 (IntKind.i64.wrap (x_1 - upS (IntKind.i64.wrap (upS (IntKind.i64.wrap (w * e_1)) n * c_3)) (1000:Int))),SV.int IntKind.i64 (IntKind.i64.wrap (x_2 - IntKind.i64.wrap (IntKind.i64.wrap (w * e_0) / n * c_2) / (1000:Int))),SV.int IntKind.i64 x_3,SV.int IntKind.i64 x_4])) (.cond (c_0 == (3:Int)) (.need ((0:Int) < (2:Int) ∧ (-9223372036854775808:Int) < IntKind.i64.wrap (IntKind.i64.wrap (IntKind.i64.wrap (w * e_0) / n * c_2) / (1000:Int) * d) ∧ IntKind.i64.wrap (IntKind.i64.wrap (IntKind.i64.wrap (w * e_0) / n * c_2) / (1000:Int) * d) ≤ (9223372036854775807:Int)) (.need ((0:Int) < (2:Int) ∧ (-9223372036854775808:Int) < IntKind.i64.wrap (upS (IntKind.i64.wrap (upS (IntKind.i64.wrap (w * e_1)) n * c_3)) (1000:Int) * d) ∧ IntKind.i64.wrap (upS (IntKind.i64.wrap (upS (IntKind.i64.wrap (w * e_1)) n * c_3)) (1000:Int) * d) < (9223372036854775807:Int)) (.leaf (SV.agg [SV.int IntKind.i64 x_0,SV.int IntKind.i64 x_1,SV.int IntKind.i64 x_2,SV.int IntKind.i64 (IntKind.i64.wrap (x_3 + IntKind.i64.wrap (IntKind.i64.wrap (IntKind.i64.wrap (w * e_0) / n * c_2) / (1000:Int) * d) / (2:Int))),SV.int IntKind.i64 (IntKind.i64.wrap (x_4 + upS (IntKind.i64.wrap (upS (IntKind.i64.wrap (upS (IntKind.i64.wrap (w * e_1)) n * c_3)) (1000:Int) * d)) (2:Int)))])))) (.leaf (SV.agg [SV.int IntKind.i64 x_0,SV.int IntKind.i64 x_1,SV.int IntKind.i64 x_2,SV.int IntKind.i64 x_3,SV.int IntKind.i64 x_4])))))))):=by kernel_rfl
def c_rrubbed:PC P:=PC.of (α:=(Int × ((Int × Int) × (Int × Int))) × (Int × (Int × ((Int × Int) × Int))) × Int × Int × (Int × Int) × Int × Unit) 73 [.agg (.pair tI (.pair tPart tPart)),.agg (.pair tI (.pair tI (.pair tPart tI))),.val tI,.val tI,.agg tPart,.val tI] (fun x => x) (fun x => x) (fun _ => rfl)
  (fun x => some ((0 < x.2.2.2.1 ∧ OkX x.1.2.1.1 x.1.2.1.2 ∧ OkMu x.2.1.2.2.1 ∧ OkF (x.2.2.1 * x.2.2.2.2.1.1 / x.2.2.2.1 * x.2.1.2.2.1.1 / 1000) (upS (upS (x.2.2.1 * x.2.2.2.2.1.2) x.2.2.2.1 * x.2.1.2.2.1.2) 1000)) ∧ (0 ≤ x.2.2.1 * x.2.2.2.2.1.1 ∧ x.2.2.1 * x.2.2.2.2.1.1 ≤ 549759943868416000) ∧ (0 ≤ x.2.2.1 * x.2.2.2.2.1.2 ∧ x.2.2.1 * x.2.2.2.2.1.2 ≤ 549764138172416000) ∧ (0 ≤ x.2.2.1 * x.2.2.2.2.1.1 / x.2.2.2.1 ∧ x.2.2.1 * x.2.2.2.2.1.1 / x.2.2.2.1 ≤ 8388608000000) ∧ (0 ≤ upS (x.2.2.1 * x.2.2.2.2.1.2) x.2.2.2.1 ∧ upS (x.2.2.1 * x.2.2.2.2.1.2) x.2.2.2.1 ≤ 8388608000000) ∧ (2 ≤ x.2.2.2.2.2.1 ∧ x.2.2.2.2.2.1 ≤ 90) ∧ 1 ≤ x.2.1.1 ∧ x.2.1.1 ≤ 3))
  (fun x => .agg [.int .i64 x.1.1,.int .i64 (rubS x.2.1.1 (x.2.2.1 * x.2.2.2.2.1.1 / x.2.2.2.1 * x.2.1.2.2.1.1 / 1000) (upS (upS (x.2.2.1 * x.2.2.2.2.1.2) x.2.2.2.1 * x.2.1.2.2.1.2) 1000) x.2.2.2.2.2.1 (hgH x.1)).1,.int .i64 (rubS x.2.1.1 (x.2.2.1 * x.2.2.2.2.1.1 / x.2.2.2.1 * x.2.1.2.2.1.1 / 1000) (upS (upS (x.2.2.1 * x.2.2.2.2.1.2) x.2.2.2.1 * x.2.1.2.2.1.2) 1000) x.2.2.2.2.2.1 (hgH x.1)).2.1,.int .i64 (rubS x.2.1.1 (x.2.2.1 * x.2.2.2.2.1.1 / x.2.2.2.1 * x.2.1.2.2.1.1 / 1000) (upS (upS (x.2.2.1 * x.2.2.2.2.1.2) x.2.2.2.1 * x.2.1.2.2.1.2) 1000) x.2.2.2.2.2.1 (hgH x.1)).2.2.1,.int .i64 (rubS x.2.1.1 (x.2.2.1 * x.2.2.2.2.1.1 / x.2.2.2.1 * x.2.1.2.2.1.1 / 1000) (upS (upS (x.2.2.1 * x.2.2.2.2.1.2) x.2.2.2.1 * x.2.1.2.2.1.2) 1000) x.2.2.2.2.2.1 (hgH x.1)).2.2.2]) (by kernel_rfl) (by
    rintro ⟨⟨x_0,⟨⟨x_1,x_2⟩,⟨x_3,x_4⟩⟩⟩,⟨c_0,⟨c_1,⟨⟨c_2,c_3⟩,c_4⟩⟩⟩,w,n,⟨e_0,e_1⟩,d,⟨⟩⟩ hp
    refine fn_of hm (by kernel_rfl) (by kernel_rfl) (T_rrubbed x_0 x_1 x_2 x_3 x_4 c_0 c_1 c_2 c_3 c_4 w n e_0 e_1 d) trivial ?_
    try dsimp only at hp
    try dsimp only
    obtain ⟨⟨hn,⟨hx1,hx2,hx3⟩,⟨hm1,hm2,hm3⟩,hf⟩,⟨e1,e2⟩,⟨e3,e4⟩,⟨e5,e6⟩,⟨e7,e8⟩,⟨ho1,ho2⟩,hc1,hc2⟩ : (0 < n ∧ OkX x_1 x_2 ∧ OkMu (c_2,c_3) ∧ OkF (w * e_0 / n * c_2 / 1000) (upS (upS (w * e_1) n * c_3) 1000)) ∧ (0 ≤ w * e_0 ∧ w * e_0 ≤ 549759943868416000) ∧ (0 ≤ w * e_1 ∧ w * e_1 ≤ 549764138172416000) ∧ (0 ≤ w * e_0 / n ∧ w * e_0 / n ≤ 8388608000000) ∧ (0 ≤ upS (w * e_1) n ∧ upS (w * e_1) n ≤ 8388608000000) ∧ (2 ≤ d ∧ d ≤ 90) ∧ 1 ≤ c_0 ∧ c_0 ≤ 3:=hp
    dsimp only at hm1 hm2 hm3
    have g1:=mul_rng (a:=w * e_0 / n) (b:=c_2) (A:=8388608000000) (B:=600) e5 e6 hm1 (by omega)
    have g2:=mul_rng (a:=upS (w * e_1) n) (b:=c_3) (A:=8388608000000) (B:=600) e7 e8 (by omega) hm3
    unfold hgH
    dsimp only
    rw [W_id (n:=w * e_0) (by omega) (by omega),W_id (n:=w * e_1) (by omega) (by omega)]
    rw [W_id (n:=w * e_0 / n * c_2) (by omega) (by omega),W_id (n:=upS (w * e_1) n * c_3) (by omega) (by omega)]
    have q1:0 < n ∧ -9223372036854775808 < w * e_0 ∧ w * e_0 ≤ 9223372036854775807:=by omega
    have q2:(0:Int) < 1000 ∧ -9223372036854775808 < w * e_0 / n * c_2 ∧ w * e_0 / n * c_2 ≤ 9223372036854775807:=by omega
    have q3:0 < n ∧ -9223372036854775808 < w * e_1 ∧ w * e_1 < 9223372036854775807:=by omega
    have q4:(0:Int) < 1000 ∧ -9223372036854775808 < upS (w * e_1) n * c_3 ∧ upS (w * e_1) n * c_3 < 9223372036854775807:=by omega
    refine ⟨q1,q2,q3,q4,?_⟩
    clear q1 q2 q3 q4 g1 g2 e1 e2 e3 e4 e5 e6 e7 e8
    generalize w * e_0 / n * c_2 / 1000 = a at *
    generalize upS (upS (w * e_1) n * c_3) 1000 = b at *
    obtain ⟨h4,h5,h6⟩:=hf
    have r1:=mul_rng (a:=a) (b:=d) (A:=17592186044416) (B:=90) h4 (by omega) (by omega) ho2
    have r2:=mul_rng (a:=b) (b:=d) (A:=17592186044416) (B:=90) (by omega) h6 (by omega) ho2
    obtain rfl | rfl | rfl:c_0 = 1 ∨ c_0 = 2 ∨ c_0 = 3:=by omega
    · simp only [rub1]
      rw [W_id (n:=x_1 + a) (by omega) (by omega),W_id (n:=x_2 + b) (by omega) (by omega)]
      exact ⟨fun _ => rfl,fun c => absurd c (by decide)⟩
    · simp only [rub2]
      rw [W_id (n:=x_1 - b) (by omega) (by omega),W_id (n:=x_2 - a) (by omega) (by omega)]
      exact ⟨fun c => absurd c (by decide),fun _ => ⟨fun _ => rfl,fun c => absurd c (by decide)⟩⟩
    · simp only [rub3]
      rw [W_id (n:=a * d) (by omega) (by omega),W_id (n:=b * d) (by omega) (by omega)]
      exact ⟨fun c => absurd c (by decide),fun _ => ⟨fun c => absurd c (by decide),fun _ => ⟨fun _ => ⟨⟨by decide,by omega,by omega⟩,⟨by decide,by omega,by omega⟩,rfl⟩,fun c => absurd c (by decide)⟩⟩⟩)
end
end Go.MP
