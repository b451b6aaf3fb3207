/- Forces: what bends and friction do, in the program and in the reference. -/
import Derived.Test.YtoockflaeaknbaaGreatMvG
namespace Go.MP
open Go Go.Sx Go.Proofs
set_option linter.unusedVariables false
set_option linter.unusedSimpArgs false
noncomputable section
def OkX (lo hi:Int):Prop:=-4398046511104 ≤ lo ∧ lo ≤ hi ∧ hi ≤ 4398046511104
def OkMu (m:R2):Prop:=0 ≤ m.1 ∧ m.1 ≤ m.2 ∧ m.2 ≤ 600
def OkB (b:R2):Prop:=0 ≤ b.1 ∧ b.1 ≤ b.2 ∧ b.2 ≤ 1414215
def OkF (lo hi:Int):Prop:=0 ≤ lo ∧ lo ≤ hi ∧ hi ≤ 17592186044416
theorem OkMu.k {m b:R2} (hm:OkMu m) (hb:OkB b):(0 ≤ m.1 * b.1 ∧ m.1 * b.1 ≤ 1000000000) ∧ (0 ≤ m.2 * b.2 ∧ m.2 * b.2 ≤ 1000000000):=by
  obtain ⟨h1,h2,h3⟩:=hm
  obtain ⟨h4,h5,h6⟩:=hb
  have a:=mul_rng (a:=m.1) (b:=b.1) (A:=600) (B:=1414215) h1 (by omega) h4 (by omega)
  have c:=mul_rng (a:=m.2) (b:=b.2) (A:=600) (B:=1414215) (by omega) (by omega) (by omega) (by omega)
  omega
theorem abs_rng {n:Int} (h1 : -4398046511104 ≤ n) (h2:n ≤ 4398046511104):0 ≤ absI n ∧ absI n ≤ 4398046511104:=by
  rw [absI_eq]; split <;> omega
theorem bent1 (mu b:R2) (o:Int) (x:H4):bentS 1 mu b o x = (x.1 + lowS9 (absI x.1) mu.1 b.1,x.2.1 + upS9 (absI x.2.1) mu.2 b.2,x.2.2):=by
  unfold bentS; rw [if_pos rfl]
theorem bent2 (mu b:R2) (o:Int) (x:H4):bentS 2 mu b o x = (x.1 - upS9 (absI x.1) mu.2 b.2,x.2.1 - lowS9 (absI x.2.1) mu.1 b.1,x.2.2):=by
  unfold bentS; rw [if_neg (by decide),if_pos rfl]
theorem bent3 (mu b:R2) (o:Int) (x:H4):bentS 3 mu b o x = (x.1,x.2.1,IntKind.i64.wrap (x.2.2.1 + lowS9 (leastS x.1 x.2.1) mu.1 b.1 * o / 2),IntKind.i64.wrap (x.2.2.2 + upS (upS9 (maxI (absI x.1) (absI x.2.1)) mu.2 b.2 * o) 2)):=by
  unfold bentS; rw [if_neg (by decide),if_neg (by decide)]
theorem rub1 (a b o:Int) (x:H4):rubS 1 a b o x = (x.1 + a,x.2.1 + b,x.2.2):=by unfold rubS; rw [if_pos rfl]
theorem rub2 (a b o:Int) (x:H4):rubS 2 a b o x = (x.1 - b,x.2.1 - a,x.2.2):=by unfold rubS; rw [if_neg (by decide),if_pos rfl]
theorem rub3 (a b o:Int) (x:H4):rubS 3 a b o x = (x.1,x.2.1,IntKind.i64.wrap (x.2.2.1 + a * o / 2),IntKind.i64.wrap (x.2.2.2 + upS (b * o) 2)):=by unfold rubS; rw [if_neg (by decide),if_neg (by decide)]
theorem least_rng {p q:Int} (h:OkX p q):0 ≤ leastS p q ∧ leastS p q ≤ 4398046511104:=by
  obtain ⟨h1,h2,h3⟩:=h
  have a1:=abs_rng (n:=p) h1 (by omega)
  have a2:=abs_rng (n:=q) (by omega) h3
  unfold leastS
  split
  · decide
  · rw [minI_eq]; omega
def L_addA:Lay:={ slots:=[(0,.ptr 1 0),(1,.val tI),(2,.val tI)],boxes:=[(1,[.val tI,.val tI,.val tI,.val tI])] }
theorem T_addA (a b p q r s:Int):mTree (P:=P) [] (lpOf []) Tryz.f86 L_addA true ((),a,b,p,q,r,s,()) =
  Tree.leaf { res:=SV.tup [],boxes:=[[SV.int IntKind.i64 (IntKind.i64.wrap (p + a)),SV.int IntKind.i64 (IntKind.i64.wrap (q + b)),SV.int IntKind.i64 r,SV.int IntKind.i64 s]] }:=by kernel_rfl
def c_addA:MC P:=MC.of (α:=Unit × Int × Int × Int × Int × Int × Int × Unit) 86 L_addA (fun x => x) (fun x => x) (fun _ => rfl)
  (fun _ => none)
  (fun (_,a,b,p,q,r,s,_) => ⟨.tup [],[[.int .i64 (IntKind.i64.wrap (p + a)),.int .i64 (IntKind.i64.wrap (q + b)),.int .i64 r,.int .i64 s]],[]⟩) (by kernel_rfl) (by kernel_rfl) (by kernel_rfl) (by
    rintro ⟨⟨⟩,a,b,p,q,r,s,⟨⟩⟩ hp
    refine m_of hm (own:=true) (by kernel_rfl) (by kernel_rfl) (by kernel_rfl) (T_addA a b p q r s) trivial ?_
    exact rfl)
def L_addB:Lay:={ slots:=[(0,.ptr 1 2),(1,.val tI),(2,.val tI)],boxes:=[(1,[.val tI,.val tI,.val tI,.val tI])] }
theorem T_addB (a b p q r s:Int):mTree (P:=P) [] (lpOf []) Tryz.f86 L_addB true ((),a,b,p,q,r,s,()) =
  Tree.leaf { res:=SV.tup [],boxes:=[[SV.int IntKind.i64 p,SV.int IntKind.i64 q,SV.int IntKind.i64 (IntKind.i64.wrap (r + a)),SV.int IntKind.i64 (IntKind.i64.wrap (s + b))]] }:=by kernel_rfl
def c_addB:MC P:=MC.of (α:=Unit × Int × Int × Int × Int × Int × Int × Unit) 86 L_addB (fun x => x) (fun x => x) (fun _ => rfl)
  (fun _ => none)
  (fun (_,a,b,p,q,r,s,_) => ⟨.tup [],[[.int .i64 p,.int .i64 q,.int .i64 (IntKind.i64.wrap (r + a)),.int .i64 (IntKind.i64.wrap (s + b))]],[]⟩) (by kernel_rfl) (by kernel_rfl) (by kernel_rfl) (by
    rintro ⟨⟨⟩,a,b,p,q,r,s,⟨⟩⟩ hp
    refine m_of hm (own:=true) (by kernel_rfl) (by kernel_rfl) (by kernel_rfl) (T_addB a b p q r s) trivial ?_
    exact rfl)
def c_add:GC P:=GC.or c_addA.gc c_addB.gc (by kernel_rfl)
def L_wild:Lay:={ slots:=[(0,.ptr 1 0)],boxes:=[(1,[.val tI,.val tI,.val tI,.val tI])] }
theorem T_wild (p q r s:Int):mTree (P:=P) [] (lpOf []) Tryz.f89 L_wild true ((),p,q,r,s,()) =
  Tree.cond (decide (p < (-4398046511104:Int))) (.leaf { res:=SV.bool true,boxes:=[[SV.int IntKind.i64 p,SV.int IntKind.i64 q,SV.int IntKind.i64 r,SV.int IntKind.i64 s]] }) (.leaf { res:=SV.bool (decide (q > (4398046511104:Int))),boxes:=[[SV.int IntKind.i64 p,SV.int IntKind.i64 q,SV.int IntKind.i64 r,SV.int IntKind.i64 s]] }):=by kernel_rfl
def c_wild:MC P:=MC.of (α:=Unit × Int × Int × Int × Int × Unit) 89 L_wild (fun x => x) (fun x => x) (fun _ => rfl)
  (fun _ => none)
  (fun (_,p,q,r,s,_) => ⟨.bool (wildS (p,q,r,s)),[[.int .i64 p,.int .i64 q,.int .i64 r,.int .i64 s]],[]⟩) (by kernel_rfl) (by kernel_rfl) (by kernel_rfl) (by
    rintro ⟨⟨⟩,p,q,r,s,⟨⟩⟩ hp
    refine m_of hm (own:=true) (by kernel_rfl) (by kernel_rfl) (by kernel_rfl) (T_wild p q r s) trivial ?_
    show Tree.holds (fun t => t = (⟨.bool (decide (p < -4398046511104) || decide (q > 4398046511104)),[[.int .i64 p,.int .i64 q,.int .i64 r,.int .i64 s]],[]⟩ : MOut)) _
    refine ⟨fun c1 => ?_,fun c1 => ?_⟩
    · rw [c1,Bool.true_or]; exact rfl
    · rw [c1,Bool.false_or]; exact rfl)
def L_bendU:Lay:={ slots:=[(0,.ptr 1 0),(1,.agg tPart),(2,.agg tPart),(3,.val tI)],boxes:=[(1,[.val tI,.val tI,.val tI,.val tI])] }
theorem T_bendU (mu_0 mu_1 b_0 b_1 o p q r s:Int):mTree (P:=P) [c_absP.gc,c_lower.gc,c_upper.gc,c_add] (lpOf []) Tryz.f106 L_bendU true ((),(mu_0,mu_1),(b_0,b_1),o,p,q,r,s,()) =
  Tree.need ((-9223372036854775808:Int) < p ∧ p ≤ (9223372036854775807:Int)) (.need ((0:Int) ≤ absI p ∧ absI p ≤ (17592186044416:Int) ∧ (0:Int) ≤ mu_0 ∧ mu_0 ≤ (600:Int) ∧ (0:Int) ≤ b_0 ∧ b_0 ≤ (2000001:Int)) (.need ((-9223372036854775808:Int) < q ∧ q ≤ (9223372036854775807:Int)) (.need ((0:Int) ≤ absI q ∧ absI q ≤ (17592186044416:Int) ∧ (0:Int) ≤ mu_1 ∧ mu_1 ≤ (600:Int) ∧ (0:Int) ≤ b_1 ∧ b_1 ≤ (2000001:Int)) (.leaf { res:=SV.tup [],boxes:=[[SV.int IntKind.i64 (IntKind.i64.wrap (p + lowS9 (absI p) mu_0 b_0)),SV.int IntKind.i64 (IntKind.i64.wrap (q + upS9 (absI q) mu_1 b_1)),SV.int IntKind.i64 r,SV.int IntKind.i64 s]] })))):=by kernel_rfl
def c_bendU:MC P:=MC.of (α:=Unit × (Int × Int) × (Int × Int) × Int × Int × Int × Int × Int × Unit) 106 L_bendU (fun x => x) (fun x => x) (fun _ => rfl)
  (fun x => some (OkX x.2.2.2.2.1 x.2.2.2.2.2.1 ∧ OkMu x.2.1 ∧ OkB x.2.2.1))
  (fun x => ⟨.tup [],[[.int .i64 (bentS 1 x.2.1 x.2.2.1 x.2.2.2.1 (x.2.2.2.2.1,x.2.2.2.2.2.1,x.2.2.2.2.2.2.1,x.2.2.2.2.2.2.2.1)).1,.int .i64 (bentS 1 x.2.1 x.2.2.1 x.2.2.2.1 (x.2.2.2.2.1,x.2.2.2.2.2.1,x.2.2.2.2.2.2.1,x.2.2.2.2.2.2.2.1)).2.1,.int .i64 (bentS 1 x.2.1 x.2.2.1 x.2.2.2.1 (x.2.2.2.2.1,x.2.2.2.2.2.1,x.2.2.2.2.2.2.1,x.2.2.2.2.2.2.2.1)).2.2.1,.int .i64 (bentS 1 x.2.1 x.2.2.1 x.2.2.2.1 (x.2.2.2.2.1,x.2.2.2.2.2.1,x.2.2.2.2.2.2.1,x.2.2.2.2.2.2.2.1)).2.2.2]],[]⟩) (by kernel_rfl) (by kernel_rfl) (by kernel_rfl) (by
    rintro ⟨⟨⟩,⟨mu_0,mu_1⟩,⟨b_0,b_1⟩,o,p,q,r,s,⟨⟩⟩ hp
    refine m_of hm (own:=true) (by kernel_rfl) (by kernel_rfl) (by kernel_rfl) (T_bendU mu_0 mu_1 b_0 b_1 o p q r s) trivial ?_
    try dsimp only at hp
    try dsimp only
    obtain ⟨hx,hm,hb⟩ : OkX p q ∧ OkMu (mu_0,mu_1) ∧ OkB (b_0,b_1):=hp
    obtain ⟨k1,k2⟩:=hm.k hb
    obtain ⟨hx1,hx2,hx3⟩:=hx
    obtain ⟨hm1,hm2,hm3⟩:=hm
    obtain ⟨hb1,hb2,hb3⟩:=hb
    dsimp only at k1 k2 hm1 hm2 hm3 hb1 hb2 hb3
    have a1:=abs_rng (n:=p) hx1 (by omega)
    have a2:=abs_rng (n:=q) (by omega) hx3
    have r1:=low_rng a1.1 k1.1 k1.2
    have r2:=up_rng a2.1 k2.1 k2.2
    simp only [bent1]
    rw [W_id (n:=p + lowS9 (absI p) mu_0 b_0) (by omega) (by omega),W_id (n:=q + upS9 (absI q) mu_1 b_1) (by omega) (by omega)]
    exact ⟨⟨by omega,by omega⟩,⟨a1.1,by omega,hm1,by omega,hb1,by omega⟩,⟨by omega,by omega⟩,⟨a2.1,by omega,by omega,hm3,by omega,by omega⟩,rfl⟩)
def L_rubU:Lay:={ slots:=[(0,.ptr 1 0),(1,.val tI),(2,.val tI),(3,.val tI)],boxes:=[(1,[.val tI,.val tI,.val tI,.val tI])] }
theorem T_rubU (a b o p q r s:Int):mTree (P:=P) [c_add] (lpOf []) Tryz.f110 L_rubU true ((),a,b,o,p,q,r,s,()) =
  Tree.leaf { res:=SV.tup [],boxes:=[[SV.int IntKind.i64 (IntKind.i64.wrap (p + a)),SV.int IntKind.i64 (IntKind.i64.wrap (q + b)),SV.int IntKind.i64 r,SV.int IntKind.i64 s]] }:=by kernel_rfl
def c_rubU:MC P:=MC.of (α:=Unit × Int × Int × Int × Int × Int × Int × Int × Unit) 110 L_rubU (fun x => x) (fun x => x) (fun _ => rfl)
  (fun (_,a,b,o,p,q,r,s,_) => some (OkX p q ∧ OkF a b))
  (fun (_,a,b,o,p,q,r,s,_) => ⟨.tup [],[[.int .i64 (rubS 1 a b o (p,q,r,s)).1,.int .i64 (rubS 1 a b o (p,q,r,s)).2.1,.int .i64 (rubS 1 a b o (p,q,r,s)).2.2.1,.int .i64 (rubS 1 a b o (p,q,r,s)).2.2.2]],[]⟩) (by kernel_rfl) (by kernel_rfl) (by kernel_rfl) (by
    rintro ⟨⟨⟩,a,b,o,p,q,r,s,⟨⟩⟩ hp
    refine m_of hm (own:=true) (by kernel_rfl) (by kernel_rfl) (by kernel_rfl) (T_rubU a b o p q r s) trivial ?_
    obtain ⟨⟨h1,h2,h3⟩,h4,h5,h6⟩ : OkX p q ∧ OkF a b:=hp
    simp only [rub1]
    rw [W_id (n:=p + a) (by omega) (by omega),W_id (n:=q + b) (by omega) (by omega)]
    exact rfl)
def L_bendD:Lay:={ slots:=[(0,.ptr 1 0),(1,.agg tPart),(2,.agg tPart),(3,.val tI)],boxes:=[(1,[.val tI,.val tI,.val tI,.val tI])] }
theorem T_bendD (mu_0 mu_1 b_0 b_1 o p q r s:Int):mTree (P:=P) [c_absP.gc,c_lower.gc,c_upper.gc,c_add] (lpOf []) Tryz.f111 L_bendD true ((),(mu_0,mu_1),(b_0,b_1),o,p,q,r,s,()) =
  Tree.need ((-9223372036854775808:Int) < p ∧ p ≤ (9223372036854775807:Int)) (.need ((0:Int) ≤ absI p ∧ absI p ≤ (17592186044416:Int) ∧ (0:Int) ≤ mu_1 ∧ mu_1 ≤ (600:Int) ∧ (0:Int) ≤ b_1 ∧ b_1 ≤ (2000001:Int)) (.need ((-9223372036854775808:Int) < q ∧ q ≤ (9223372036854775807:Int)) (.need ((0:Int) ≤ absI q ∧ absI q ≤ (17592186044416:Int) ∧ (0:Int) ≤ mu_0 ∧ mu_0 ≤ (600:Int) ∧ (0:Int) ≤ b_0 ∧ b_0 ≤ (2000001:Int)) (.leaf { res:=SV.tup [],boxes:=[[SV.int IntKind.i64 (IntKind.i64.wrap (p + IntKind.i64.wrap ((0:Int) - upS9 (absI p) mu_1 b_1))),SV.int IntKind.i64 (IntKind.i64.wrap (q + IntKind.i64.wrap ((0:Int) - lowS9 (absI q) mu_0 b_0))),SV.int IntKind.i64 r,SV.int IntKind.i64 s]] })))):=by kernel_rfl
def c_bendD:MC P:=MC.of (α:=Unit × (Int × Int) × (Int × Int) × Int × Int × Int × Int × Int × Unit) 111 L_bendD (fun x => x) (fun x => x) (fun _ => rfl)
  (fun x => some (OkX x.2.2.2.2.1 x.2.2.2.2.2.1 ∧ OkMu x.2.1 ∧ OkB x.2.2.1))
  (fun x => ⟨.tup [],[[.int .i64 (bentS 2 x.2.1 x.2.2.1 x.2.2.2.1 (x.2.2.2.2.1,x.2.2.2.2.2.1,x.2.2.2.2.2.2.1,x.2.2.2.2.2.2.2.1)).1,.int .i64 (bentS 2 x.2.1 x.2.2.1 x.2.2.2.1 (x.2.2.2.2.1,x.2.2.2.2.2.1,x.2.2.2.2.2.2.1,x.2.2.2.2.2.2.2.1)).2.1,.int .i64 (bentS 2 x.2.1 x.2.2.1 x.2.2.2.1 (x.2.2.2.2.1,x.2.2.2.2.2.1,x.2.2.2.2.2.2.1,x.2.2.2.2.2.2.2.1)).2.2.1,.int .i64 (bentS 2 x.2.1 x.2.2.1 x.2.2.2.1 (x.2.2.2.2.1,x.2.2.2.2.2.1,x.2.2.2.2.2.2.1,x.2.2.2.2.2.2.2.1)).2.2.2]],[]⟩) (by kernel_rfl) (by kernel_rfl) (by kernel_rfl) (by
    rintro ⟨⟨⟩,⟨mu_0,mu_1⟩,⟨b_0,b_1⟩,o,p,q,r,s,⟨⟩⟩ hp
    refine m_of hm (own:=true) (by kernel_rfl) (by kernel_rfl) (by kernel_rfl) (T_bendD mu_0 mu_1 b_0 b_1 o p q r s) trivial ?_
    try dsimp only at hp
    try dsimp only
    obtain ⟨hx,hm,hb⟩ : OkX p q ∧ OkMu (mu_0,mu_1) ∧ OkB (b_0,b_1):=hp
    obtain ⟨k1,k2⟩:=hm.k hb
    obtain ⟨hx1,hx2,hx3⟩:=hx
    obtain ⟨hm1,hm2,hm3⟩:=hm
    obtain ⟨hb1,hb2,hb3⟩:=hb
    dsimp only at k1 k2 hm1 hm2 hm3 hb1 hb2 hb3
    have a1:=abs_rng (n:=p) hx1 (by omega)
    have a2:=abs_rng (n:=q) (by omega) hx3
    have r1:=up_rng a1.1 k2.1 k2.2
    have r2:=low_rng a2.1 k1.1 k1.2
    simp only [bent2]
    rw [W_id (n:=0 - upS9 (absI p) mu_1 b_1) (by omega) (by omega),W_id (n:=0 - lowS9 (absI q) mu_0 b_0) (by omega) (by omega),show p + (0 - upS9 (absI p) mu_1 b_1) = p - upS9 (absI p) mu_1 b_1 by omega,show q + (0 - lowS9 (absI q) mu_0 b_0) = q - lowS9 (absI q) mu_0 b_0 by omega,W_id (n:=p - upS9 (absI p) mu_1 b_1) (by omega) (by omega),W_id (n:=q - lowS9 (absI q) mu_0 b_0) (by omega) (by omega)]
    exact ⟨⟨by omega,by omega⟩,⟨a1.1,by omega,by omega,hm3,by omega,by omega⟩,⟨by omega,by omega⟩,⟨a2.1,by omega,hm1,by omega,hb1,by omega⟩,rfl⟩)
def L_rubD:Lay:={ slots:=[(0,.ptr 1 0),(1,.val tI),(2,.val tI),(3,.val tI)],boxes:=[(1,[.val tI,.val tI,.val tI,.val tI])] }
theorem T_rubD (a b o p q r s:Int):mTree (P:=P) [c_add] (lpOf []) Tryz.f112 L_rubD true ((),a,b,o,p,q,r,s,()) =
  Tree.leaf { res:=SV.tup [],boxes:=[[SV.int IntKind.i64 (IntKind.i64.wrap (p + IntKind.i64.wrap ((0:Int) - b))),SV.int IntKind.i64 (IntKind.i64.wrap (q + IntKind.i64.wrap ((0:Int) - a))),SV.int IntKind.i64 r,SV.int IntKind.i64 s]] }:=by kernel_rfl
def c_rubD:MC P:=MC.of (α:=Unit × Int × Int × Int × Int × Int × Int × Int × Unit) 112 L_rubD (fun x => x) (fun x => x) (fun _ => rfl)
  (fun (_,a,b,o,p,q,r,s,_) => some (OkX p q ∧ OkF a b))
  (fun (_,a,b,o,p,q,r,s,_) => ⟨.tup [],[[.int .i64 (rubS 2 a b o (p,q,r,s)).1,.int .i64 (rubS 2 a b o (p,q,r,s)).2.1,.int .i64 (rubS 2 a b o (p,q,r,s)).2.2.1,.int .i64 (rubS 2 a b o (p,q,r,s)).2.2.2]],[]⟩) (by kernel_rfl) (by kernel_rfl) (by kernel_rfl) (by
    rintro ⟨⟨⟩,a,b,o,p,q,r,s,⟨⟩⟩ hp
    refine m_of hm (own:=true) (by kernel_rfl) (by kernel_rfl) (by kernel_rfl) (T_rubD a b o p q r s) trivial ?_
    obtain ⟨⟨h1,h2,h3⟩,h4,h5,h6⟩ : OkX p q ∧ OkF a b:=hp
    simp only [rub2]
    rw [W_id (n:=0 - b) (by omega) (by omega),W_id (n:=0 - a) (by omega) (by omega),show p + (0 - b) = p - b by omega,show q + (0 - a) = q - a by omega,W_id (n:=p - b) (by omega) (by omega),W_id (n:=q - a) (by omega) (by omega)]
    exact rfl)
def L_bendS:Lay:={ slots:=[(0,.ptr 1 0),(1,.agg tPart),(2,.agg tPart),(3,.val tI)],boxes:=[(1,[.val tI,.val tI,.val tI,.val tI])] }
theorem T_bendS (mu_0 mu_1 b_0 b_1 o p q r s:Int):mTree (P:=P) [c_absP.gc,c_lower.gc,c_upper.gc,c_down.gc,c_up.gc,c_add] (lpOf []) Tryz.f113 L_bendS true ((),(mu_0,mu_1),(b_0,b_1),o,p,q,r,s,()) =
  Tree.need ((-9223372036854775808:Int) < p ∧ p ≤ (9223372036854775807:Int)) (.need ((-9223372036854775808:Int) < q ∧ q ≤ (9223372036854775807:Int)) (.cond (decide (p ≤ (0:Int))) (.cond (decide (q ≥ (0:Int))) (.need ((0:Int) ≤ (0:Int) ∧ (0:Int) ≤ (17592186044416:Int) ∧ (0:Int) ≤ mu_0 ∧ mu_0 ≤ (600:Int) ∧ (0:Int) ≤ b_0 ∧ b_0 ≤ (2000001:Int)) (.need ((0:Int) < (2:Int) ∧ (-9223372036854775808:Int) < IntKind.i64.wrap (lowS9 (0:Int) mu_0 b_0 * o) ∧ IntKind.i64.wrap (lowS9 (0:Int) mu_0 b_0 * o) ≤ (9223372036854775807:Int)) (.need ((-9223372036854775808:Int) < p ∧ p ≤ (9223372036854775807:Int)) (.need ((-9223372036854775808:Int) < q ∧ q ≤ (9223372036854775807:Int)) (.need ((0:Int) ≤ maxI (absI p) (absI q) ∧ maxI (absI p) (absI q) ≤ (17592186044416:Int) ∧ (0:Int) ≤ mu_1 ∧ mu_1 ≤ (600:Int) ∧ (0:Int) ≤ b_1 ∧ b_1 ≤ (2000001:Int)) (.need ((0:Int) < (2:Int) ∧ (-9223372036854775808:Int) < IntKind.i64.wrap (upS9 (maxI (absI p) (absI q)) mu_1 b_1 * o) ∧ IntKind.i64.wrap (upS9 (maxI (absI p) (absI q)) mu_1 b_1 * o) < (9223372036854775807:Int)) (.leaf { res:=SV.tup [],boxes:=[[SV.int IntKind.i64 p,SV.int IntKind.i64 q,SV.int IntKind.i64 (IntKind.i64.wrap (r + IntKind.i64.wrap (lowS9 (0:Int) mu_0 b_0 * o) / (2:Int))),SV.int IntKind.i64 (IntKind.i64.wrap (s + upS (IntKind.i64.wrap (upS9 (maxI (absI p) (absI q)) mu_1 b_1 * o)) (2:Int)))]] }))))))) (.need ((0:Int) ≤ minI (absI p) (absI q) ∧ minI (absI p) (absI q) ≤ (17592186044416:Int) ∧ (0:Int) ≤ mu_0 ∧ mu_0 ≤ (600:Int) ∧ (0:Int) ≤ b_0 ∧ b_0 ≤ (2000001:Int)) (.need ((0:Int) < (2:Int) ∧ (-9223372036854775808:Int) < IntKind.i64.wrap (lowS9 (minI (absI p) (absI q)) mu_0 b_0 * o) ∧ IntKind.i64.wrap (lowS9 (minI (absI p) (absI q)) mu_0 b_0 * o) ≤ (9223372036854775807:Int)) (.need ((-9223372036854775808:Int) < p ∧ p ≤ (9223372036854775807:Int)) (.need ((-9223372036854775808:Int) < q ∧ q ≤ (9223372036854775807:Int)) (.need ((0:Int) ≤ maxI (absI p) (absI q) ∧ maxI (absI p) (absI q) ≤ (17592186044416:Int) ∧ (0:Int) ≤ mu_1 ∧ mu_1 ≤ (600:Int) ∧ (0:Int) ≤ b_1 ∧ b_1 ≤ (2000001:Int)) (.need ((0:Int) < (2:Int) ∧ (-9223372036854775808:Int) < IntKind.i64.wrap (upS9 (maxI (absI p) (absI q)) mu_1 b_1 * o) ∧ IntKind.i64.wrap (upS9 (maxI (absI p) (absI q)) mu_1 b_1 * o) < (9223372036854775807:Int)) (.leaf { res:=SV.tup [],boxes:=[[SV.int IntKind.i64 p,SV.int IntKind.i64 q,SV.int IntKind.i64 (IntKind.i64.wrap (r + IntKind.i64.wrap (lowS9 (minI (absI p) (absI q)) mu_0 b_0 * o) / (2:Int))),SV.int IntKind.i64 (IntKind.i64.wrap (s + upS (IntKind.i64.wrap (upS9 (maxI (absI p) (absI q)) mu_1 b_1 * o)) (2:Int)))]] })))))))) (.need ((0:Int) ≤ minI (absI p) (absI q) ∧ minI (absI p) (absI q) ≤ (17592186044416:Int) ∧ (0:Int) ≤ mu_0 ∧ mu_0 ≤ (600:Int) ∧ (0:Int) ≤ b_0 ∧ b_0 ≤ (2000001:Int)) (.need ((0:Int) < (2:Int) ∧ (-9223372036854775808:Int) < IntKind.i64.wrap (lowS9 (minI (absI p) (absI q)) mu_0 b_0 * o) ∧ IntKind.i64.wrap (lowS9 (minI (absI p) (absI q)) mu_0 b_0 * o) ≤ (9223372036854775807:Int)) (.need ((-9223372036854775808:Int) < p ∧ p ≤ (9223372036854775807:Int)) (.need ((-9223372036854775808:Int) < q ∧ q ≤ (9223372036854775807:Int)) (.need ((0:Int) ≤ maxI (absI p) (absI q) ∧ maxI (absI p) (absI q) ≤ (17592186044416:Int) ∧ (0:Int) ≤ mu_1 ∧ mu_1 ≤ (600:Int) ∧ (0:Int) ≤ b_1 ∧ b_1 ≤ (2000001:Int)) (.need ((0:Int) < (2:Int) ∧ (-9223372036854775808:Int) < IntKind.i64.wrap (upS9 (maxI (absI p) (absI q)) mu_1 b_1 * o) ∧ IntKind.i64.wrap (upS9 (maxI (absI p) (absI q)) mu_1 b_1 * o) < (9223372036854775807:Int)) (.leaf { res:=SV.tup [],boxes:=[[SV.int IntKind.i64 p,SV.int IntKind.i64 q,SV.int IntKind.i64 (IntKind.i64.wrap (r + IntKind.i64.wrap (lowS9 (minI (absI p) (absI q)) mu_0 b_0 * o) / (2:Int))),SV.int IntKind.i64 (IntKind.i64.wrap (s + upS (IntKind.i64.wrap (upS9 (maxI (absI p) (absI q)) mu_1 b_1 * o)) (2:Int)))]] }))))))))):=by kernel_rfl
def c_bendS:MC P:=MC.of (α:=Unit × (Int × Int) × (Int × Int) × Int × Int × Int × Int × Int × Unit) 113 L_bendS (fun x => x) (fun x => x) (fun _ => rfl)
  (fun x => some (OkX x.2.2.2.2.1 x.2.2.2.2.2.1 ∧ OkMu x.2.1 ∧ OkB x.2.2.1 ∧ 2 ≤ x.2.2.2.1 ∧ x.2.2.2.1 ≤ 90))
  (fun x => ⟨.tup [],[[.int .i64 (bentS 3 x.2.1 x.2.2.1 x.2.2.2.1 (x.2.2.2.2.1,x.2.2.2.2.2.1,x.2.2.2.2.2.2.1,x.2.2.2.2.2.2.2.1)).1,.int .i64 (bentS 3 x.2.1 x.2.2.1 x.2.2.2.1 (x.2.2.2.2.1,x.2.2.2.2.2.1,x.2.2.2.2.2.2.1,x.2.2.2.2.2.2.2.1)).2.1,.int .i64 (bentS 3 x.2.1 x.2.2.1 x.2.2.2.1 (x.2.2.2.2.1,x.2.2.2.2.2.1,x.2.2.2.2.2.2.1,x.2.2.2.2.2.2.2.1)).2.2.1,.int .i64 (bentS 3 x.2.1 x.2.2.1 x.2.2.2.1 (x.2.2.2.2.1,x.2.2.2.2.2.1,x.2.2.2.2.2.2.1,x.2.2.2.2.2.2.2.1)).2.2.2]],[]⟩) (by kernel_rfl) (by kernel_rfl) (by kernel_rfl) (by
    rintro ⟨⟨⟩,⟨mu_0,mu_1⟩,⟨b_0,b_1⟩,o,p,q,r,s,⟨⟩⟩ hp
    refine m_of hm (own:=true) (by kernel_rfl) (by kernel_rfl) (by kernel_rfl) (T_bendS mu_0 mu_1 b_0 b_1 o p q r s) trivial ?_
    try dsimp only at hp
    try dsimp only
    obtain ⟨hx,hm,hb,ho1,ho2⟩ : OkX p q ∧ OkMu (mu_0,mu_1) ∧ OkB (b_0,b_1) ∧ 2 ≤ o ∧ o ≤ 90:=hp
    obtain ⟨k1,k2⟩:=hm.k hb
    have hl:=least_rng hx
    obtain ⟨hx1,hx2,hx3⟩:=hx
    obtain ⟨hm1,hm2,hm3⟩:=hm
    obtain ⟨hb1,hb2,hb3⟩:=hb
    dsimp only at k1 k2 hm1 hm2 hm3 hb1 hb2 hb3
    have a1:=abs_rng (n:=p) hx1 (by omega)
    have a2:=abs_rng (n:=q) (by omega) hx3
    have a3:0 ≤ maxI (absI p) (absI q) ∧ maxI (absI p) (absI q) ≤ 4398046511104:=by rw [maxI_eq]; omega
    have a4:0 ≤ minI (absI p) (absI q) ∧ minI (absI p) (absI q) ≤ 4398046511104:=by rw [minI_eq]; omega
    have r1:=up_rng a3.1 k2.1 k2.2
    have r2:=mul_rng (b:=o) r1.1 r1.2 (by omega) ho2
    have s1:=low_rng hl.1 k1.1 k1.2
    have s2:=mul_rng (b:=o) s1.1 s1.2 (by omega) ho2
    simp only [bent3]
    have hp2 : -9223372036854775808 < p ∧ p ≤ 9223372036854775807:=by omega
    have hq2 : -9223372036854775808 < q ∧ q ≤ 9223372036854775807:=by omega
    have u1:0 ≤ maxI (absI p) (absI q) ∧ maxI (absI p) (absI q) ≤ 17592186044416 ∧ 0 ≤ mu_1 ∧ mu_1 ≤ 600 ∧ 0 ≤ b_1 ∧ b_1 ≤ 2000001:=by omega
    rw [W_id (n:=upS9 (maxI (absI p) (absI q)) mu_1 b_1 * o) (by omega) (by omega)]
    have u2:(0:Int) < 2 ∧ -9223372036854775808 < upS9 (maxI (absI p) (absI q)) mu_1 b_1 * o ∧ upS9 (maxI (absI p) (absI q)) mu_1 b_1 * o < 9223372036854775807:=by omega
    have low:∀ e:Int,leastS p q = e → (0 ≤ e ∧ e ≤ 17592186044416 ∧ 0 ≤ mu_0 ∧ mu_0 ≤ 600 ∧ 0 ≤ b_0 ∧ b_0 ≤ 2000001) ∧ IntKind.i64.wrap (lowS9 e mu_0 b_0 * o) = lowS9 e mu_0 b_0 * o ∧ ((0:Int) < 2 ∧ -9223372036854775808 < lowS9 e mu_0 b_0 * o ∧ lowS9 e mu_0 b_0 * o ≤ 9223372036854775807):=by
      rintro e rfl
      refine ⟨by omega,W_id (by omega) (by omega),by omega⟩
    refine ⟨hp2,hq2,?_⟩
    refine ⟨fun c1 => ⟨fun c2 => ?_,fun c2 => ?_⟩,fun c1 => ?_⟩
    all_goals simp only [decide_eq_true_eq,decide_eq_false_iff_not] at *
    · have e:leastS p q = 0:=by unfold leastS; rw [if_pos ⟨c1,c2⟩]
      obtain ⟨v1,v2,v3⟩:=low _ e
      rw [e,v2]
      exact ⟨v1,v3,hp2,hq2,u1,u2,rfl⟩
    · have e:leastS p q = minI (absI p) (absI q):=by unfold leastS; rw [if_neg (by omega)]
      obtain ⟨v1,v2,v3⟩:=low _ e
      rw [e,v2]
      exact ⟨v1,v3,hp2,hq2,u1,u2,rfl⟩
    · have e:leastS p q = minI (absI p) (absI q):=by unfold leastS; rw [if_neg (by omega)]
      obtain ⟨v1,v2,v3⟩:=low _ e
      rw [e,v2]
      exact ⟨v1,v3,hp2,hq2,u1,u2,rfl⟩)
def L_rubZ:Lay:={ slots:=[(0,.ptr 1 0),(1,.val tI),(2,.val tI),(3,.val tI)],boxes:=[(1,[.val tI,.val tI,.val tI,.val tI])] }
theorem T_rubZ (a b o p q r s:Int):mTree (P:=P) [c_down.gc,c_up.gc,c_add] (lpOf []) Tryz.f114 L_rubZ true ((),a,b,o,p,q,r,s,()) =
  Tree.need ((0:Int) < (2:Int) ∧ (-9223372036854775808:Int) < IntKind.i64.wrap (a * o) ∧ IntKind.i64.wrap (a * o) ≤ (9223372036854775807:Int)) (.need ((0:Int) < (2:Int) ∧ (-9223372036854775808:Int) < IntKind.i64.wrap (b * o) ∧ IntKind.i64.wrap (b * o) < (9223372036854775807:Int)) (.leaf { res:=SV.tup [],boxes:=[[SV.int IntKind.i64 p,SV.int IntKind.i64 q,SV.int IntKind.i64 (IntKind.i64.wrap (r + IntKind.i64.wrap (a * o) / (2:Int))),SV.int IntKind.i64 (IntKind.i64.wrap (s + upS (IntKind.i64.wrap (b * o)) (2:Int)))]] })):=by kernel_rfl
def c_rubZ:MC P:=MC.of (α:=Unit × Int × Int × Int × Int × Int × Int × Int × Unit) 114 L_rubZ (fun x => x) (fun x => x) (fun _ => rfl)
  (fun (_,a,b,o,p,q,r,s,_) => some (OkX p q ∧ OkF a b ∧ 2 ≤ o ∧ o ≤ 90))
  (fun (_,a,b,o,p,q,r,s,_) => ⟨.tup [],[[.int .i64 (rubS 3 a b o (p,q,r,s)).1,.int .i64 (rubS 3 a b o (p,q,r,s)).2.1,.int .i64 (rubS 3 a b o (p,q,r,s)).2.2.1,.int .i64 (rubS 3 a b o (p,q,r,s)).2.2.2]],[]⟩) (by kernel_rfl) (by kernel_rfl) (by kernel_rfl) (by
    rintro ⟨⟨⟩,a,b,o,p,q,r,s,⟨⟩⟩ hp
    refine m_of hm (own:=true) (by kernel_rfl) (by kernel_rfl) (by kernel_rfl) (T_rubZ a b o p q r s) trivial ?_
    obtain ⟨⟨h1,h2,h3⟩,⟨h4,h5,h6⟩,ho1,ho2⟩ : OkX p q ∧ OkF a b ∧ 2 ≤ o ∧ o ≤ 90:=hp
    have r1:=mul_rng (a:=a) (b:=o) (A:=17592186044416) (B:=90) h4 (by omega) (by omega) ho2
    have r2:=mul_rng (a:=b) (b:=o) (A:=17592186044416) (B:=90) (by omega) h6 (by omega) ho2
    simp only [rub3]
    rw [W_id (n:=a * o) (by omega) (by omega),W_id (n:=b * o) (by omega) (by omega)]
    exact ⟨⟨by decide,by omega,by omega⟩,⟨by decide,by omega,by omega⟩,rfl⟩)
theorem T_rules (m:Int):fnTree (P:=P) [] (lpOf []) Tryz.f87 (encL 0 [.val tI] (m,())) =
  Tree.cond (m == (1:Int)) (.leaf (SV.agg [SV.fn (106:Nat) [],SV.fn (110:Nat) []])) (.cond (m == (2:Int)) (.leaf (SV.agg [SV.fn (111:Nat) [],SV.fn (112:Nat) []])) (.leaf (SV.agg [SV.fn (113:Nat) [],SV.fn (114:Nat) []]))):=by kernel_rfl
def c_rules:PC P:=PC.of (α:=Int × Unit) 87 [.val tI] (fun x => x) (fun x => x) (fun _ => rfl)
  (fun _ => none)
  (fun x => bif x.1 == 1 then .agg [.fn 106 [],.fn 110 []] else bif x.1 == 2 then .agg [.fn 111 [],.fn 112 []] else .agg [.fn 113 [],.fn 114 []]) (by kernel_rfl) (by
    rintro ⟨m,⟨⟩⟩ hp
    refine fn_of hm (by kernel_rfl) (by kernel_rfl) (T_rules m) trivial ?_
    dsimp only
    refine ⟨fun c1 => ?_,fun c1 => ⟨fun c2 => ?_,fun c2 => ?_⟩⟩
    · rw [c1]; exact rfl
    · rw [c1,c2]; exact rfl
    · rw [c1,c2]; exact rfl)
end
end Go.MP
