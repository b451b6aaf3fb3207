/- What the laws are made with: numbers, copies, equal sites. -/
import Derived.Test.YtfhomgggbhjglaaMbH
namespace Go.MB
open Go Go.Sx Go.Proofs
set_option linter.unusedVariables false
set_option linter.unusedSimpArgs false
noncomputable section
def R64 (n:Int):Prop:=-9223372036854775808 ≤ n ∧ n ≤ 9223372036854775807
theorem tmod_pos {a b:Int} (hb:0 < b):Int.tmod a b = a % b ∨ (Int.tmod a b = a % b - b ∧ a < 0):=by
  rw [Int.tmod_eq_emod]
  split
  · left; omega
  · right
    have:(b.natAbs:Int) = b:=by omega
    exact ⟨by omega,by omega⟩
theorem T_Mod (a b:Int):fnTree (P:=P) [] (lpOf []) Try.f35 (encL 0 [.val tI,.val tI] (a,b,())) =
  Tree.need (b ≠ (0:Int)) (.cond (decide (Int.tmod a b < (0:Int))) (.leaf (SV.int IntKind.i64 (IntKind.i64.wrap (Int.tmod a b + b)))) (.leaf (SV.int IntKind.i64 (Int.tmod a b)))):=by kernel_rfl
def c_Mod:PC P:=PC.of (α:=Int × Int × Unit) 35 [.val tI,.val tI] (fun x => x) (fun x => x) (fun _ => rfl)
  (fun x => some (0 < x.2.1 ∧ R64 x.2.1))
  (fun x => .int .i64 (x.1 % x.2.1)) (by kernel_rfl) (by
    rintro ⟨a,b,⟨⟩⟩ hp
    refine fn_of hm (by kernel_rfl) (by kernel_rfl) (T_Mod a b) trivial ?_
    obtain ⟨h0,h1,h2⟩ : 0 < b ∧ R64 b:=hp
    have h3:=Int.emod_nonneg a (show b ≠ 0 by omega)
    have h4:=Int.emod_lt_of_pos a h0
    refine ⟨by omega,fun h => ?_,fun h => ?_⟩
    · simp only [decide_eq_true_eq] at h
      show SV.int .i64 _ = SV.int .i64 (a % b)
      rcases tmod_pos (a:=a) h0 with e | ⟨e,_⟩
      · omega
      · rw [e,W_id (by omega) (by omega)]; congr 1; omega
    · simp only [decide_eq_false_iff_not] at h
      show SV.int .i64 _ = SV.int .i64 (a % b)
      rcases tmod_pos (a:=a) h0 with e | ⟨e,_⟩
      · rw [e]
      · omega)
def rnX (l:List Int) (k:Int):Int:=(k * 7919) % 10007 + (if 0 < (l.length:Int) then (l.getD (k % l.length).toNat 0 % 1048576) / (1 + k / l.length) else 0)
def rnS (l:List Int) (at' n:Int):Int:=rnX l (at' + 1) % n
theorem rnS_rng {l:List Int} {k n:Int} (h:0 ≤ k) (hn:0 < n):0 ≤ rnS l k n ∧ rnS l k n < n :=
  ⟨Int.emod_nonneg _ (by omega),Int.emod_lt_of_pos _ hn⟩
def L_RNext:Lay:={ slots:=[(0,.ptr 1 0),(1,.val tI)],boxes:=[(1,[.val tIs,.val tI])] }
theorem T_RNext (n:Int) (l:List Int) (k:Int):mTree (P:=P) [c_Mod.gc] (lpOf []) Try.f41 L_RNext true ((),n,l,k,()) =
  Tree.need ((10007:Int) ≠ (0:Int)) (.cond (decide ((l.length:Int) > (0:Int))) (.need ((l.length:Int) ≠ (0:Int)) (.need ((0:Int) ≤ Int.tmod (IntKind.i64.wrap (k + (1:Int))) (l.length:Int) ∧ Int.tmod (IntKind.i64.wrap (k + (1:Int))) (l.length:Int) < (l.length:Int)) (.need ((0:Int) < (1048576:Int) ∧ R64 (1048576:Int)) (.need ((l.length:Int) ≠ (0:Int)) (.need (IntKind.i64.wrap ((1:Int) + IntKind.i64.wrap (Int.tdiv (IntKind.i64.wrap (k + (1:Int))) (l.length:Int))) ≠ (0:Int)) (.need (n ≠ (0:Int)) (.leaf { res:=SV.int IntKind.i64 (Int.tmod (IntKind.i64.wrap (Int.tmod (IntKind.i64.wrap (IntKind.i64.wrap (k + (1:Int)) * (7919:Int))) (10007:Int) + IntKind.i64.wrap (Int.tdiv (List.getD l (Int.toNat (Int.tmod (IntKind.i64.wrap (k + (1:Int))) (l.length:Int))) (0:Int) % (1048576:Int)) (IntKind.i64.wrap ((1:Int) + IntKind.i64.wrap (Int.tdiv (IntKind.i64.wrap (k + (1:Int))) (l.length:Int))))))) n),boxes:=[[SV.sl tI l,SV.int IntKind.i64 (IntKind.i64.wrap (k + (1:Int)))]] }))))))) (.need (n ≠ (0:Int)) (.leaf { res:=SV.int IntKind.i64 (Int.tmod (Int.tmod (IntKind.i64.wrap (IntKind.i64.wrap (k + (1:Int)) * (7919:Int))) (10007:Int)) n),boxes:=[[SV.sl tI l,SV.int IntKind.i64 (IntKind.i64.wrap (k + (1:Int)))]] }))):=by kernel_rfl
def c_RNext:MC P:=MC.of (α:=Unit × Int × List Int × Int × Unit) 41 L_RNext (fun x => x) (fun x => x) (fun _ => rfl)
  (fun (_,n,l,k,_) => some (0 ≤ k ∧ k < 1099511627776 ∧ 0 < n))
  (fun (_,n,l,k,_) => ⟨.int .i64 (rnS l k n),[[.sl tI l,.int .i64 (k + 1)]],[]⟩) (by kernel_rfl) (by kernel_rfl) (by kernel_rfl) (by
    rintro ⟨⟨⟩,n,l,k,⟨⟩⟩ hp
    refine m_of hm (own:=true) (by kernel_rfl) (by kernel_rfl) (by kernel_rfl) (T_RNext n l k) trivial ?_
    obtain ⟨h0,h1,h2⟩ : 0 ≤ k ∧ k < 1099511627776 ∧ 0 < n:=hp
    show Tree.holds (fun s => s = (⟨.int .i64 (rnS l k n),[[.sl tI l,.int .i64 (k + 1)]],[]⟩ : MOut)) _
    have e0:=Int.tmod_eq_emod_of_nonneg (show 0 ≤ (k + 1) * 7919 by omega) (b:=10007)
    have r1:=Int.emod_nonneg ((k + 1) * 7919) (show (10007:Int) ≠ 0 by decide)
    have r2:=Int.emod_lt_of_pos ((k + 1) * 7919) (show (0:Int) < 10007 by decide)
    rw [W_id (n:=k + 1) (by omega) (by omega),W_id (n:=(k + 1) * 7919) (by omega) (by omega),e0]
    refine ⟨by decide,fun hl => ?_,fun hl => ?_⟩
    · simp only [gt_iff_lt,decide_eq_true_eq] at hl
      have e1:=Int.tmod_eq_emod_of_nonneg (show 0 ≤ k + 1 by omega) (b:=(l.length:Int))
      have e2:=Int.tdiv_eq_ediv_of_nonneg (show 0 ≤ k + 1 by omega) (b:=(l.length:Int))
      have q1:0 ≤ (k + 1) / (l.length:Int):=Int.ediv_nonneg (by omega) (by omega)
      have q2:=Int.ediv_le_self (l.length:Int) (show 0 ≤ k + 1 by omega)
      have m1:=Int.emod_nonneg (k + 1) (show (l.length:Int) ≠ 0 by omega)
      have m2:=Int.emod_lt_of_pos (k + 1) hl
      rw [e1,e2]
      generalize hg:l.getD ((k + 1) % (l.length:Int)).toNat 0 = g at *
      have x1:=Int.emod_nonneg g (show (1048576:Int) ≠ 0 by decide)
      have x2:=Int.emod_lt_of_pos g (show (0:Int) < 1048576 by decide)
      have e3:=Int.tdiv_eq_ediv_of_nonneg x1 (b:=1 + (k + 1) / (l.length:Int))
      have y1:=Int.ediv_nonneg x1 (show 0 ≤ 1 + (k + 1) / (l.length:Int) by omega)
      have y2:=Int.ediv_le_self (1 + (k + 1) / (l.length:Int)) x1
      rw [W_id (n:=(k + 1) / (l.length:Int)) (by omega) (by omega),W_id (n:=1 + (k + 1) / (l.length:Int)) (by omega) (by omega),e3,W_id (n:=g % 1048576 / (1 + (k + 1) / (l.length:Int))) (by omega) (by omega),
        W_id (n:=(k + 1) * 7919 % 10007 + g % 1048576 / (1 + (k + 1) / (l.length:Int))) (by omega) (by omega),Int.tmod_eq_emod_of_nonneg (by omega)]
      refine ⟨by omega,⟨m1,m2⟩,⟨by decide,by decide,by decide⟩,by omega,by omega,by omega,?_⟩
      show MOut.mk _ _ _ = _
      unfold rnS rnX
      rw [if_pos hl,hg]
    · simp only [gt_iff_lt,decide_eq_false_iff_not] at hl
      rw [Int.tmod_eq_emod_of_nonneg (by omega)]
      refine ⟨by omega,?_⟩
      show MOut.mk _ _ _ = _
      unfold rnS rnX
      rw [if_neg hl,Int.add_zero])
def L_NewRing:Lay:={ slots:=[(0,.val tIs)] }
theorem T_NewRing (l:List Int):mTree (P:=P) [] (lpOf []) Try.f10 L_NewRing true (l,()) =
  Tree.leaf { res:=SV.ptr (nat_lit 100) (0:Nat),boxes:=[],news:=[Ob.box [SV.sl tI l,SV.int IntKind.i64 (0:Int)]] }:=by kernel_rfl
def c_NewRing:MC P:=MC.of (α:=List Int × Unit) 10 L_NewRing (fun x => x) (fun x => x) (fun _ => rfl)
  (fun _ => none)
  (fun (l,_) => ⟨.ptr 100 0,[],[.box [.sl tI l,.int .i64 0]]⟩) (by kernel_rfl) (by kernel_rfl) (by kernel_rfl) (by
    rintro ⟨l,⟨⟩⟩ hp
    refine m_of hm (own:=true) (by kernel_rfl) (by kernel_rfl) (by kernel_rfl) (T_NewRing l) trivial ?_
    exact rfl)
end
end Go.MB
