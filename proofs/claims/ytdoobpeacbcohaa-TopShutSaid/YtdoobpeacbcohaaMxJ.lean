/- Rigs: whether a move reaches states of fewer ticks, whatever is lost. -/
import Derived.Test.YtdoobpeacbcohaaMxI
namespace Go.MR
open Go Go.Sx Go.Proofs
set_option linter.unusedVariables false
set_option linter.unusedSimpArgs false
noncomputable section
def L_clone:Lay:={ slots:=[(0,.val tIs)] }
theorem T_clone (l:List Int):mTree (P:=P) [] (lpOf []) Try.f51 L_clone true (l,()) =
  Tree.need (l ≠ []) (.cond false (.leaf { res:=SV.nils,boxes:=[] }) (.need (((0:Nat) + List.length l) * (8:Nat) ≤ (140737488355328:Nat)) (.leaf { res:=SV.own (nat_lit 100),boxes:=[],news:=[Ob.row (3:Nat) (Ty.int IntKind.i64) l] }))):=by kernel_rfl
def c_clone:XC P:=XC.of (α:=List Int × Unit) 51 L_clone (fun x => x) (fun x => x) (fun _ => rfl)
  (fun x => some (x.1 ≠ [] ∧ x.1.length ≤ 1000))
  (fun x => ⟨.own 100,[],[.row 3 tI x.1]⟩) (by kernel_rfl) (by kernel_rfl) (by
    rintro ⟨l,⟨⟩⟩ hp
    refine m_of hm (own:=true) (by kernel_rfl) (by kernel_rfl) (by kernel_rfl) (T_clone l) trivial ?_
    obtain ⟨h1,h2⟩:=hp
    have h3:l.length ≤ 1000:=h2
    exact ⟨h1,fun h => (by cases h),fun _ => ⟨by show (0 + l.length) * 8 ≤ 140737488355328; omega,rfl⟩⟩)
def popS (x:Int):Int:=x % 2 + x / 2 % 2 + x / 4 % 2 + x / 8 % 2
theorem T_ones64 (x:Int) (x2_:Int) (hx2_:x2_ = (IntKind.u64.wrap (bits BinOp.and IntKind.u64 (shrI IntKind.u64 x (1:Int)) (6148914691236517205:Int) + bits BinOp.and IntKind.u64 x (6148914691236517205:Int)))) (x1_:Int) (hx1_:x1_ = (IntKind.u64.wrap (shrI IntKind.u64 (IntKind.u64.wrap (bits BinOp.and IntKind.u64 (shrI IntKind.u64 x2_ (2:Int)) (3689348814741910323:Int) + bits BinOp.and IntKind.u64 x2_ (3689348814741910323:Int))) (4:Int) + IntKind.u64.wrap (bits BinOp.and IntKind.u64 (shrI IntKind.u64 x2_ (2:Int)) (3689348814741910323:Int) + bits BinOp.and IntKind.u64 x2_ (3689348814741910323:Int))))):fnTree (P:=P) [] (lpOf []) Try.f86 (encL 0 [.val (.int .u64)] (x,())) =
  Tree.need ((0:Int) ≤ (1:Int)) (.need ((0:Int) ≤ (2:Int)) (.need ((0:Int) ≤ (4:Int)) (.need ((0:Int) ≤ (8:Int)) (.need ((0:Int) ≤ (16:Int)) (.need ((0:Int) ≤ (32:Int)) (.leaf (SV.int IntKind.i64 (bits BinOp.and IntKind.i64 (IntKind.i64.wrap (IntKind.u64.wrap (IntKind.u64.wrap (IntKind.u64.wrap (bits BinOp.and IntKind.u64 x1_ (1085102592571150095:Int) + shrI IntKind.u64 (bits BinOp.and IntKind.u64 x1_ (1085102592571150095:Int)) (8:Int)) + shrI IntKind.u64 (IntKind.u64.wrap (bits BinOp.and IntKind.u64 x1_ (1085102592571150095:Int) + shrI IntKind.u64 (bits BinOp.and IntKind.u64 x1_ (1085102592571150095:Int)) (8:Int))) (16:Int)) + shrI IntKind.u64 (IntKind.u64.wrap (IntKind.u64.wrap (bits BinOp.and IntKind.u64 x1_ (1085102592571150095:Int) + shrI IntKind.u64 (bits BinOp.and IntKind.u64 x1_ (1085102592571150095:Int)) (8:Int)) + shrI IntKind.u64 (IntKind.u64.wrap (bits BinOp.and IntKind.u64 x1_ (1085102592571150095:Int) + shrI IntKind.u64 (bits BinOp.and IntKind.u64 x1_ (1085102592571150095:Int)) (8:Int))) (16:Int))) (32:Int)))) (127:Int))))))))):=by
  subst hx1_; subst hx2_; kernel_rfl
def c_ones64:PC P:=PC.of (α:=Int × Unit) 86 [.val (.int .u64)] (fun x => x) (fun x => x) (fun _ => rfl)
  (fun x => some (0 ≤ x.1 ∧ x.1 < 16))
  (fun x => .int .i64 (popS x.1)) (by kernel_rfl) (by
    rintro ⟨x,⟨⟩⟩ hp
    refine fn_of hm (by kernel_rfl) (by kernel_rfl) (T_ones64 x _ rfl _ rfl) trivial ?_
    obtain ⟨h0,h1⟩ : 0 ≤ x ∧ x < 16:=hp
    have h:x = 0 ∨ x = 1 ∨ x = 2 ∨ x = 3 ∨ x = 4 ∨ x = 5 ∨ x = 6 ∨ x = 7 ∨ x = 8 ∨ x = 9 ∨ x = 10 ∨ x = 11 ∨ x = 12 ∨ x = 13 ∨ x = 14 ∨ x = 15:=by omega
    refine ⟨by decide,by decide,by decide,by decide,by decide,by decide,?_⟩
    rcases h with rfl | rfl | rfl | rfl | rfl | rfl | rfl | rfl | rfl | rfl | rfl | rfl | rfl | rfl | rfl | rfl <;> exact congrArg (SV.int .i64) (by kernel_rfl))
theorem T_ones (x:Int):fnTree (P:=P) [c_ones64.gc] (lpOf []) Try.f75 (encL 0 [.val (.int .u64)] (x,())) =
  Tree.need ((0:Int) ≤ x ∧ x < (16:Int)) (.leaf (SV.int IntKind.i64 (popS x))):=by kernel_rfl
def c_ones:PC P:=PC.of (α:=Int × Unit) 75 [.val (.int .u64)] (fun x => x) (fun x => x) (fun _ => rfl)
  (fun x => some (0 ≤ x.1 ∧ x.1 < 16))
  (fun x => .int .i64 (popS x.1)) (by kernel_rfl) (by
    rintro ⟨x,⟨⟩⟩ hp
    refine fn_of hm (by kernel_rfl) (by kernel_rfl) (T_ones x) trivial ?_
    exact ⟨hp,rfl⟩)
def nzS:List Int → Int → List Int
  | [],_ => []
  | x :: m,i => if x ≠ 0 then i :: nzS m (i + 1) else nzS m (i + 1)
def bitB (set k:Int):Bool:=bits .and .i64 (shrI .i64 set k) 1 == 0
def upS (s m:List Int) (set:Int):List Int → Int → List Int → List Int
  | [],_,r => r
  | i :: mv,k,r => upS s m set mv (k + 1) (r.set i.toNat (if bitB set k = true then IntKind.i64.wrap (s.getD i.toNat 0 + m.getD i.toNat 0) else s.getD i.toNat 0))
def tkS (tk:List Int) (l n:Int):Int:=((tk.drop (l.toNat * 4096)).take 4096).getD n.toNat 0
def setsS (ps tk s m:List Int) (losses t:Int) (mv:List Int):Nat → Int → List Int → Bool
  | 0,_,_ => true
  | k + 1,set,r => if popS set > losses then setsS ps tk s m losses t mv k (set + 1) r
    else if tkS tk (losses - popS set) (numW ps (upS s m set mv 0 r) 0) < 0 ∨ tkS tk (losses - popS set) (numW ps (upS s m set mv 0 r) 0) > t then false
    else setsS ps tk s m losses t mv k (set + 1) (upS s m set mv 0 r)
theorem inR_iff:∀ {s ps:List Int},s.length = ps.length → (inR s ps = true ↔ ∀ i:Nat,i < s.length → 0 ≤ s.getD i 0 ∧ s.getD i 0 < ps.getD i 0)
  | [],ps,_ => ⟨fun _ i hi => by simp at hi,fun _ => inR_nil ps⟩
  | p :: s,[],h => by simp at h
  | p :: s,q :: ps,h => by
    have ih:=inR_iff (s:=s) (ps:=ps) (by simpa using h)
    rw [inR,Bool.and_eq_true,Bool.and_eq_true,decide_eq_true_eq,decide_eq_true_eq,ih]
    constructor
    · rintro ⟨h1,h2⟩ i hi
      cases i with
      | zero => exact h1
      | succ i => exact h2 i (by simpa using hi)
    · intro h1
      exact ⟨h1 0 (by simp),fun i hi => h1 (i + 1) (by simpa using hi)⟩
theorem wayOk_get:∀ {s m ps:List Int},wayOk s m ps = true → ∀ i:Nat,i < s.length → i < m.length → i < ps.length → wi (IntKind.i64.wrap (s.getD i 0 + m.getD i 0)) 0 (IntKind.i64.wrap (ps.getD i 0 - 1)) = true
  | p :: s,x :: m,q :: ps,h,i,h1,h2,h3 => by
    rw [wayOk,Bool.and_eq_true] at h
    cases i with
    | zero => exact h.1
    | succ i => exact wayOk_get h.2 i (by simpa using h1) (by simpa using h2) (by simpa using h3)
  | [],_,_,_,i,h1,_,_ => by simp at h1
  | _ :: _,[],_,_,i,_,h2,_ => by simp at h2
  | _ :: _,_ :: _,[],_,i,_,_,h3 => by simp at h3
theorem getD_set {l:List Int} {i j:Nat} {v:Int} (h:i < l.length):(l.set i v).getD j 0 = if j = i then v else l.getD j 0:=by
  rw [List.getD_eq_getElem?_getD,List.getD_eq_getElem?_getD,List.getElem?_set]
  by_cases e:i = j
  · subst e; simp [h]
  · rw [if_neg e,if_neg (Ne.symm e)]
theorem inR_set {r ps:List Int} {i:Nat} {v:Int} (hl:r.length = ps.length) (hr:inR r ps = true) (hi:i < r.length) (h1:0 ≤ v) (h2:v < ps.getD i 0):inR (r.set i v) ps = true:=by
  refine (inR_iff (by rw [List.length_set]; exact hl)).2 fun j hj => ?_
  rw [List.length_set] at hj
  rw [getD_set hi]
  split
  · rename_i e; rw [e]; exact ⟨h1,h2⟩
  · exact (inR_iff hl).1 hr j hj
theorem nzS_rng:∀ {m:List Int} {i x:Int},x ∈ nzS m i → i ≤ x ∧ x < i + m.length
  | [],i,x,h => by simp [nzS] at h
  | y :: m,i,x,h => by
    rw [nzS] at h
    have hl:((y :: m).length:Int) = m.length + 1:=by simp
    rw [hl]
    split at h
    · rcases List.mem_cons.1 h with rfl | h
      · omega
      · have:=nzS_rng h; omega
    · have:=nzS_rng h; omega
theorem nzS_len:∀ (m:List Int) (i:Int),(nzS m i).length ≤ m.length
  | [],i => Nat.le_refl _
  | y :: m,i => by
    rw [nzS]
    have:=nzS_len m (i + 1)
    split
    · simp only [List.length_cons]; omega
    · simp only [List.length_cons]; omega
theorem nzS_nil (i:Int):nzS [] i = []:=rfl
theorem nzS_step {l:List Int} {j:Int} (h0:0 ≤ j) (h:j < l.length):nzS (l.drop j.toNat) j = if l.getD j.toNat 0 ≠ 0 then j :: nzS (l.drop (j + 1).toNat) (j + 1) else nzS (l.drop (j + 1).toNat) (j + 1):=by
  rw [drop_step (0:Int) h0 h,nzS]
theorem upS_nil (s m r:List Int) (set k:Int):upS s m set [] k r = r:=rfl
theorem upS_step {s m q r:List Int} {set k:Int} (h0:0 ≤ k) (h:k < q.length):upS s m set (q.drop k.toNat) k r = upS s m set (q.drop (k + 1).toNat) (k + 1) (r.set (q.getD k.toNat 0).toNat (if bitB set k = true then IntKind.i64.wrap (s.getD (q.getD k.toNat 0).toNat 0 + m.getD (q.getD k.toNat 0).toNat 0) else s.getD (q.getD k.toNat 0).toNat 0)):=by
  rw [drop_step (0:Int) h0 h,upS]
structure OkR (ps s m:List Int):Prop where
  l2:2 ≤ ps.length
  l4:ps.length ≤ 4
  pb:ps.any badP = false
  sl:s.length = ps.length
  ml:m.length = ps.length
  si:inR s ps = true
  mi:wayOk s m ps = true
theorem OkR.s {ps s m:List Int} (h:OkR ps s m) {i:Nat} (hi:i < ps.length):0 ≤ s.getD i 0 ∧ s.getD i 0 < ps.getD i 0:=(inR_iff h.sl).1 h.si i (by rw [h.sl]; exact hi)
theorem OkR.w {ps s m:List Int} (h:OkR ps s m) {i:Nat} (hi:i < ps.length):0 ≤ IntKind.i64.wrap (s.getD i 0 + m.getD i 0) ∧ IntKind.i64.wrap (s.getD i 0 + m.getD i 0) < ps.getD i 0:=by
  have h1:=wayOk_get h.mi i (by rw [h.sl]; exact hi) (by rw [h.ml]; exact hi) hi
  have h2:=place_ne h.pb hi
  unfold wi at h1
  rw [Bool.and_eq_true,decide_eq_true_eq,decide_eq_true_eq,W_id (n:=ps.getD i 0 - 1) (by omega) (by omega)] at h1
  omega
theorem upS_ok {ps s m:List Int} (h:OkR ps s m) {set:Int}:∀ {mv:List Int} {k:Int} {r:List Int},(∀ x ∈ mv,0 ≤ x ∧ x < ps.length) → r.length = ps.length → inR r ps = true → (upS s m set mv k r).length = ps.length ∧ inR (upS s m set mv k r) ps = true
  | [],k,r,_,hl,hr => ⟨hl,hr⟩
  | i :: mv,k,r,hm,hl,hr => by
    obtain ⟨h1,h2⟩:=hm i (by simp)
    rw [upS]
    have hi:i.toNat < ps.length:=by omega
    refine upS_ok h (fun x hx => hm x (List.mem_cons_of_mem _ hx)) (by rw [List.length_set]; exact hl) (inR_set hl hr (by omega) ?_ ?_)
    · split
      · exact (h.w hi).1
      · exact (h.s hi).1
    · split
      · exact (h.w hi).2
      · exact (h.s hi).2
def prodL:List Int → Int
  | [] => 1
  | q :: ps => q * prodL ps
theorem prodL_rng:∀ {ps:List Int},ps.any badP = false → 1 ≤ prodL ps ∧ prodL ps ≤ 8 ^ ps.length
  | [],_ => by decide
  | q :: ps,h => by
    have h1:=place_ne (i:=0) h (by simp)
    rw [List.any_cons,Bool.or_eq_false_iff] at h
    obtain ⟨h2,h3⟩:=prodL_rng h.2
    have e:(q :: ps).getD 0 0 = q:=rfl
    rw [e] at h1
    rw [prodL,List.length_cons,Int.pow_succ,Int.mul_comm (8 ^ ps.length)]
    constructor
    · have:=Int.mul_le_mul h1.1 h2 (by omega) (by omega); omega
    · exact Int.mul_le_mul h1.2 h3 (by omega) (by omega)
theorem numW_rng:∀ {ps s:List Int} {n A:Int},ps.any badP = false → s.length = ps.length → inR s ps = true → 0 ≤ n → n < A → A * prodL ps ≤ 4096 → 0 ≤ numW ps s n ∧ numW ps s n < A * prodL ps
  | [],s,n,A,_,hl,_,h0,h1,_ => by
    have:s = []:=List.eq_nil_of_length_eq_zero (by simpa using hl)
    subst this
    rw [numW_nil,prodL]; omega
  | q :: ps,[],n,A,_,hl,_,_,_,_ => by simp at hl
  | q :: ps,p :: s,n,A,hb,hl,hr,h0,h1,h2 => by
    have hq:=place_ne (i:=0) hb (by simp)
    rw [show (q :: ps).getD 0 0 = q from rfl] at hq
    rw [List.any_cons,Bool.or_eq_false_iff] at hb
    rw [inR,Bool.and_eq_true,Bool.and_eq_true,decide_eq_true_eq,decide_eq_true_eq] at hr
    obtain ⟨⟨hp0,hp1⟩,hr⟩:=hr
    have hpr:=(prodL_rng hb.2).1
    rw [prodL,← Int.mul_assoc] at h2
    have hA:A * q ≤ 4096:=by
      have:A * q * 1 ≤ A * q * prodL ps:=Int.mul_le_mul_of_nonneg_left hpr (Int.mul_nonneg (by omega) (by omega))
      omega
    have hn:n * q + p < A * q:=by
      have:(n + 1) * q ≤ A * q:=Int.mul_le_mul_of_nonneg_right (by omega) (by omega)
      rw [Int.add_mul] at this
      omega
    have hn0:0 ≤ n * q:=Int.mul_nonneg h0 (by omega)
    rw [numW,W_id (n:=n * q) (by omega) (by omega),W_id (n:=n * q + p) (by omega) (by omega),prodL,← Int.mul_assoc]
    exact numW_rng hb.2 (by simpa using hl) hr (by omega) hn h2
theorem num_rng {ps s:List Int} (hb:ps.any badP = false) (h4:ps.length ≤ 4) (hl:s.length = ps.length) (hr:inR s ps = true):0 ≤ numW ps s 0 ∧ numW ps s 0 < prodL ps ∧ prodL ps ≤ 4096:=by
  have h1:=prodL_rng hb
  have h2:(8:Int) ^ ps.length ≤ 4096:=by
    have:ps.length = 0 ∨ ps.length = 1 ∨ ps.length = 2 ∨ ps.length = 3 ∨ ps.length = 4:=by omega
    rcases this with e | e | e | e | e <;> rw [e] <;> decide
  have:=numW_rng hb hl hr (n:=0) (A:=1) (by omega) (by omega) (by omega)
  omega
theorem U_id {n:Int} (h0:0 ≤ n) (h1:n < 16):IntKind.u64.wrap n = n:=by
  simp [IntKind.wrap,IntKind.signed,IntKind.bits]
  omega
theorem shl_one {n:Nat} (h:n ≤ 4):shlI .i64 1 (n:Int) = 2 ^ n:=by
  have:n = 0 ∨ n = 1 ∨ n = 2 ∨ n = 3 ∨ n = 4:=by omega
  rcases this with e | e | e | e | e <;> subst e <;> decide
theorem popS_rng (x:Int):0 ≤ popS x:=by unfold popS; omega
def reachS (ps tk s m:List Int) (losses t:Int):Bool:=setsS ps tk s m losses t (nzS m 0) (2 ^ (nzS m 0).length) 0 s
def L_rch0:Lay:={ slots:=[(0,.adr (.pair (.pair tIs (.sl (.pair tI (.pair tI (.pair tI tV))))) (.pair (.arr (.int .i8) 12288) (.pair (.arr .bool 4096) tI)))),(1,.val tIs),(2,.val tIs),(3,.val tI),(4,.val (.int .i8)),(11,.row 3 tI),(20,.val tIs),(21,.val tI),(22,.val tI)] }
def L_rch0_0:Lay:={ slots:=[(0,.adr (.pair (.pair tIs (.sl (.pair tI (.pair tI (.pair tI tV))))) (.pair (.arr (.int .i8) 12288) (.pair (.arr .bool 4096) tI)))),(1,.val tIs),(2,.val tIs),(3,.val tI),(4,.val (.int .i8)),(11,.row 3 tI)] }
def X_rch0:Exit → St → Option Lay
  | .exit 0,_ => some L_rch0_0
  | _,_ => none
abbrev C_rch0:Code:=loopC (bodyOf Try.f50) 0
theorem B_rch0 (ps:List Int) (bs:List (Int × (Int × (Int × V)))) (tk:List Int) (sf:List Bool) (mn:Int) (s m:List Int) (losses t:Int) (mv l:List Int) (n j:Int):loopBodyA (P:=P) [] (lpOf []) [] 98 noU (inner C_rch0) L_rch0 X_rch0 (α:=((List Int × List (Int × (Int × (Int × V)))) × (List Int × (List Bool × Int))) × List Int × List Int × Int × Int × List Int × List Int × Int × Int × Unit) (fun x => x) (fun x => x) (((ps,bs),(tk,(sf,mn))),s,m,losses,t,mv,l,n,j,()) =
  Tree.cond (decide (j < n)) (.need ((0:Int) ≤ j ∧ j < (l.length:Int)) (.cond (List.getD l (Int.toNat j) (0:Int) != (0:Int)) (.need ((List.length mv + List.length [j]) * (8:Nat) ≤ (140737488355328:Nat)) (.leaf (Sum.inl (((ps,bs),tk,sf,mn),s,m,losses,t,mv ++ [j],l,n,IntKind.i64.wrap (j + (1:Int)),())))) (.leaf (Sum.inl (((ps,bs),tk,sf,mn),s,m,losses,t,mv,l,n,IntKind.i64.wrap (j + (1:Int)),()))))) (.leaf (Sum.inr (Exit.exit (0:Nat),Lay.st L_rch0_0 noU (((ps,bs),tk,sf,mn),s,m,losses,t,mv,())))):=by kernel_rfl
def inv_rch0:((List Int × List (Int × (Int × (Int × V)))) × (List Int × (List Bool × Int))) × List Int × List Int × Int × Int × List Int × List Int × Int × Int × Unit → Prop:=fun (((ps,bs),(tk,(sf,mn))),s,m,losses,t,mv,l,n,j,()) => n = l.length ∧ 0 ≤ j ∧ j ≤ n ∧ (l.length:Int) ≤ 1000 ∧ (mv.length:Int) ≤ j
def O_rch0:((List Int × List (Int × (Int × (Int × V)))) × (List Int × (List Bool × Int))) × List Int × List Int × Int × Int × List Int × List Int × Int × Int × Unit → Tree (Exit × St):=fun (((ps,bs),(tk,(sf,mn))),s,m,losses,t,mv,l,n,j,()) => (.leaf (.exit 0,L_rch0_0.st noU (((ps,bs),(tk,(sf,mn))),s,m,losses,t,(mv ++ nzS (l.drop j.toNat) j),())))
def R_rch0:LRun:=runOf 98 L_rch0 (fun x => x) (inv_rch0) (O_rch0)
theorem K_rch0:LoopOk P [] 98 none noU C_rch0 (R_rch0):=by
  refine loop_of hm (cx:=[]) [] (xl:=X_rch0) (α:=((List Int × List (Int × (Int × (Int × V)))) × (List Int × (List Bool × Int))) × List Int × List Int × Int × Int × List Int × List Int × Int × Int × Unit) (fun x => x) (fun (((ps,bs),(tk,(sf,mn))),s,m,losses,t,mv,l,n,j,()) => (n - j).toNat) (fun _ => rfl) (by kernel_rfl) (by kernel_rfl) ?_ (by kernel_rfl) trivial ?_
  · intro e S L' h
    unfold X_rch0 at h
    split at h <;> first | (cases h; done) | (cases h; kernel_rfl) | (rcases bif_some h with h | h <;> cases h <;> kernel_rfl)
  · rintro ⟨⟨⟨ps,bs⟩,⟨tk,⟨sf,mn⟩⟩⟩,s,m,losses,t,mv,l,n,j,⟨⟩⟩ hinv Q hQ
    refine hold_of_eq (B_rch0 ps bs tk sf mn s m losses t mv l n j) ?_
    obtain ⟨rfl,h0,h1,h2,h3⟩:=hinv
    rw [W_id (n:=j + 1) (by omega) (by omega)]
    have hQ' : Q (.exit 0,L_rch0_0.st noU (((ps,bs),tk,sf,mn),s,m,losses,t,mv ++ nzS (l.drop j.toNat) j,())):=hQ
    refine ⟨fun c1 => ?_,fun c1 => ?_⟩
    · have d1:=of_decide_eq_true c1
      have hm:((l.length:Int) - (j + 1)).toNat < ((l.length:Int) - j).toNat:=by omega
      rw [nzS_step h0 d1] at hQ'
      refine ⟨⟨h0,d1⟩,fun c2 => ?_,fun c2 => ?_⟩
      · have d2:l.getD j.toNat 0 ≠ 0:=by simpa using c2
        rw [if_pos d2,List.append_cons] at hQ'
        refine ⟨?_,⟨⟨rfl,by omega,by omega,h2,?_⟩,hm⟩,hQ'⟩
        · show (mv.length + 1) * 8 ≤ 140737488355328; omega
        · rw [List.length_append]; show ((mv.length + 1:Nat):Int) ≤ _; omega
      · have d2:¬ l.getD j.toNat 0 ≠ 0:=by simpa using c2
        rw [if_neg d2] at hQ'
        exact ⟨⟨⟨rfl,by omega,by omega,h2,by omega⟩,hm⟩,hQ'⟩
    · have d1:=of_decide_eq_false c1
      rw [drop_end d1,nzS_nil,List.append_nil] at hQ'
      exact hQ'
def L_rch4:Lay:={ slots:=[(0,.adr (.pair (.pair tIs (.sl (.pair tI (.pair tI (.pair tI tV))))) (.pair (.arr (.int .i8) 12288) (.pair (.arr .bool 4096) tI)))),(1,.val tIs),(2,.val tIs),(3,.val tI),(4,.val (.int .i8)),(11,.val tIs),(14,.row 3 tI),(15,.val tI),(16,.val tI),(38,.val tI),(39,.val tI),(48,.val tIs),(49,.val tI),(50,.val tI)] }
def L_rch4_0:Lay:={ slots:=[(0,.adr (.pair (.pair tIs (.sl (.pair tI (.pair tI (.pair tI tV))))) (.pair (.arr (.int .i8) 12288) (.pair (.arr .bool 4096) tI)))),(1,.val tIs),(2,.val tIs),(3,.val tI),(4,.val (.int .i8)),(11,.val tIs),(14,.row 3 tI),(16,.val tI),(38,.val tI),(39,.val tI)] }
def X_rch4:Exit → St → Option Lay
  | .exit 4,_ => some L_rch4_0
  | _,_ => none
abbrev C_rch4:Code:=loopC (inner (loopC (bodyOf Try.f50) 2)) 4
theorem B_rch4 (ps:List Int) (bs:List (Int × (Int × (Int × V)))) (tk:List Int) (sf:List Bool) (mn:Int) (s m:List Int) (losses t:Int) (mv r:List Int) (set ones N i:Int) (q:List Int) (n k:Int):loopBodyA (P:=P) [] (lpOf []) [] 98 noU (inner C_rch4) L_rch4 X_rch4 (α:=((List Int × List (Int × (Int × (Int × V)))) × (List Int × (List Bool × Int))) × List Int × List Int × Int × Int × List Int × List Int × Int × Int × Int × Int × List Int × Int × Int × Unit) (fun x => x) (fun x => x) (((ps,bs),(tk,(sf,mn))),s,m,losses,t,mv,r,set,ones,N,i,q,n,k,()) =
  Tree.cond (decide (k < n)) (.need ((0:Int) ≤ k ∧ k < (q.length:Int)) (.need ((0:Int) ≤ List.getD q (Int.toNat k) (0:Int) ∧ List.getD q (Int.toNat k) (0:Int) < (s.length:Int)) (.need ((0:Int) ≤ List.getD q (Int.toNat k) (0:Int) ∧ List.getD q (Int.toNat k) (0:Int) < (r.length:Int)) (.need (Int.toNat (List.getD q (Int.toNat k) (0:Int)) < List.length r) (.need ((0:Int) ≤ k) (.cond (bits BinOp.and IntKind.i64 (shrI IntKind.i64 set k) (1:Int) == (0:Int)) (.need ((0:Int) ≤ List.getD q (Int.toNat k) (0:Int) ∧ List.getD q (Int.toNat k) (0:Int) < (↑(List.length (List.set r (Int.toNat (List.getD q (Int.toNat k) (0:Int))) (List.getD s (Int.toNat (List.getD q (Int.toNat k) (0:Int))) (0:Int)))):Int)) (.need (Int.toNat (List.getD q (Int.toNat k) (0:Int)) < List.length (List.set r (Int.toNat (List.getD q (Int.toNat k) (0:Int))) (List.getD s (Int.toNat (List.getD q (Int.toNat k) (0:Int))) (0:Int)))) (.need ((0:Int) ≤ List.getD q (Int.toNat k) (0:Int) ∧ List.getD q (Int.toNat k) (0:Int) < (m.length:Int)) (.need ((0:Int) ≤ List.getD q (Int.toNat k) (0:Int) ∧ List.getD q (Int.toNat k) (0:Int) < (↑(List.length (List.set r (Int.toNat (List.getD q (Int.toNat k) (0:Int))) (List.getD s (Int.toNat (List.getD q (Int.toNat k) (0:Int))) (0:Int)))):Int)) (.need (Int.toNat (List.getD q (Int.toNat k) (0:Int)) < List.length (List.set r (Int.toNat (List.getD q (Int.toNat k) (0:Int))) (List.getD s (Int.toNat (List.getD q (Int.toNat k) (0:Int))) (0:Int)))) (.leaf (Sum.inl (((ps,bs),tk,sf,mn),s,m,losses,t,mv,List.set (List.set r (Int.toNat (List.getD q (Int.toNat k) (0:Int))) (List.getD s (Int.toNat (List.getD q (Int.toNat k) (0:Int))) (0:Int))) (Int.toNat (List.getD q (Int.toNat k) (0:Int))) (IntKind.i64.wrap (List.getD (List.set r (Int.toNat (List.getD q (Int.toNat k) (0:Int))) (List.getD s (Int.toNat (List.getD q (Int.toNat k) (0:Int))) (0:Int))) (Int.toNat (List.getD q (Int.toNat k) (0:Int))) (0:Int) + List.getD m (Int.toNat (List.getD q (Int.toNat k) (0:Int))) (0:Int))),set,ones,N,i,q,n,IntKind.i64.wrap (k + (1:Int)),())))))))) (.leaf (Sum.inl (((ps,bs),tk,sf,mn),s,m,losses,t,mv,List.set r (Int.toNat (List.getD q (Int.toNat k) (0:Int))) (List.getD s (Int.toNat (List.getD q (Int.toNat k) (0:Int))) (0:Int)),set,ones,N,i,q,n,IntKind.i64.wrap (k + (1:Int)),()))))))))) (.leaf (Sum.inr (Exit.exit (4:Nat),Lay.st L_rch4_0 noU (((ps,bs),tk,sf,mn),s,m,losses,t,mv,r,ones,N,i,())))):=by kernel_rfl
def inv_rch4:((List Int × List (Int × (Int × (Int × V)))) × (List Int × (List Bool × Int))) × List Int × List Int × Int × Int × List Int × List Int × Int × Int × Int × Int × List Int × Int × Int × Unit → Prop:=fun (((ps,bs),(tk,(sf,mn))),s,m,losses,t,mv,r,set,ones,N,i,q,n,k,()) => n = q.length ∧ 0 ≤ k ∧ k ≤ n ∧ (q.length:Int) ≤ 1000 ∧ (∀ x ∈ q,0 ≤ x ∧ x < s.length) ∧ m.length = s.length ∧ r.length = s.length
def O_rch4:((List Int × List (Int × (Int × (Int × V)))) × (List Int × (List Bool × Int))) × List Int × List Int × Int × Int × List Int × List Int × Int × Int × Int × Int × List Int × Int × Int × Unit → Tree (Exit × St):=fun (((ps,bs),(tk,(sf,mn))),s,m,losses,t,mv,r,set,ones,N,i,q,n,k,()) => (.leaf (.exit 4,L_rch4_0.st noU (((ps,bs),(tk,(sf,mn))),s,m,losses,t,mv,(upS s m set (q.drop k.toNat) k r),ones,N,i,())))
def R_rch4:LRun:=runOf 98 L_rch4 (fun x => x) (inv_rch4) (O_rch4)
theorem K_rch4:LoopOk P [] 98 none noU C_rch4 (R_rch4):=by
  refine loop_of hm (cx:=[]) [] (xl:=X_rch4) (α:=((List Int × List (Int × (Int × (Int × V)))) × (List Int × (List Bool × Int))) × List Int × List Int × Int × Int × List Int × List Int × Int × Int × Int × Int × List Int × Int × Int × Unit) (fun x => x) (fun (((ps,bs),(tk,(sf,mn))),s,m,losses,t,mv,r,set,ones,N,i,q,n,k,()) => (n - k).toNat) (fun _ => rfl) (by kernel_rfl) (by kernel_rfl) ?_ (by kernel_rfl) trivial ?_
  · intro e S L' h
    unfold X_rch4 at h
    split at h <;> first | (cases h; done) | (cases h; kernel_rfl) | (rcases bif_some h with h | h <;> cases h <;> kernel_rfl)
  · rintro ⟨⟨⟨ps,bs⟩,⟨tk,⟨sf,mn⟩⟩⟩,s,m,losses,t,mv,r,set,ones,N,i,q,n,k,⟨⟩⟩ hinv Q hQ
    refine hold_of_eq (B_rch4 ps bs tk sf mn s m losses t mv r set ones N i q n k) ?_
    obtain ⟨rfl,h0,h1,h2,h3,h4,h5⟩:=hinv
    rw [W_id (n:=k + 1) (by omega) (by omega)]
    have hQ' : Q (.exit 4,L_rch4_0.st noU (((ps,bs),tk,sf,mn),s,m,losses,t,mv,upS s m set (q.drop k.toNat) k r,ones,N,i,())):=hQ
    refine ⟨fun c1 => ?_,fun c1 => ?_⟩
    · have d1:=of_decide_eq_true c1
      have hm:((q.length:Int) - (k + 1)).toNat < ((q.length:Int) - k).toNat:=by omega
      obtain ⟨b0,b1⟩:=h3 _ (getD_mem (d:=(0:Int)) (show k.toNat < q.length by omega))
      rw [upS_step h0 d1] at hQ'
      generalize q.getD k.toNat 0 = x at *
      have b2:x.toNat < r.length:=by omega
      have eB:(bits .and .i64 (shrI .i64 set k) 1 == 0) = bitB set k:=rfl
      refine ⟨⟨h0,d1⟩,⟨b0,b1⟩,⟨b0,by omega⟩,b2,h0,fun c2 => ⟨⟨b0,by rw [List.length_set]; omega⟩,by rw [List.length_set]; exact b2,⟨b0,by omega⟩,⟨b0,by rw [List.length_set]; omega⟩,by rw [List.length_set]; exact b2,?_⟩,fun c2 => ?_⟩
      · rw [eB] at c2
        rw [if_pos c2] at hQ'
        rw [List.set_set,getD_set b2,if_pos rfl]
        exact ⟨⟨⟨rfl,by omega,by omega,h2,h3,h4,by rw [List.length_set]; exact h5⟩,hm⟩,hQ'⟩
      · rw [eB] at c2
        rw [if_neg (by rw [c2]; simp)] at hQ'
        exact ⟨⟨⟨rfl,by omega,by omega,h2,h3,h4,by rw [List.length_set]; exact h5⟩,hm⟩,hQ'⟩
    · have d1:=of_decide_eq_false c1
      rw [drop_end d1,upS_nil] at hQ'
      exact hQ'
def L_rch2:Lay:={ slots:=[(0,.adr (.pair (.pair tIs (.sl (.pair tI (.pair tI (.pair tI tV))))) (.pair (.arr (.int .i8) 12288) (.pair (.arr .bool 4096) tI)))),(1,.val tIs),(2,.val tIs),(3,.val tI),(4,.val (.int .i8)),(11,.val tIs),(14,.row 3 tI),(38,.val tI),(39,.val tI)] }
def L_rch2_0:Lay:={ slots:=[(10,.val .bool)] }
def L_rch2_1:Lay:={ slots:=[] }
def X_rch2:Exit → St → Option Lay
  | .ret,_ => some L_rch2_0
  | .exit 2,_ => some L_rch2_1
  | _,_ => none
abbrev C_rch2:Code:=loopC (bodyOf Try.f50) 2
theorem B_rch2 (ps:List Int) (bs:List (Int × (Int × (Int × V)))) (tk:List Int) (sf:List Bool) (mn:Int) (s m:List Int) (losses t:Int) (mv r:List Int) (N i:Int):loopBodyA (P:=P) [c_ones.gc,c_number.gc] (lpOf [(4,R_rch4)]) [] 98 noU (inner C_rch2) L_rch2 X_rch2 (α:=((List Int × List (Int × (Int × (Int × V)))) × (List Int × (List Bool × Int))) × List Int × List Int × Int × Int × List Int × List Int × Int × Int × Unit) (fun x => x) (fun x => x) (((ps,bs),(tk,(sf,mn))),s,m,losses,t,mv,r,N,i,()) =
  Tree.cond (decide (i < N)) (.need ((0:Int) ≤ IntKind.u64.wrap i ∧ IntKind.u64.wrap i < (16:Int)) (.cond (decide (popS (IntKind.u64.wrap i) > losses)) (.leaf (Sum.inl (((ps,bs),tk,sf,mn),s,m,losses,t,mv,r,N,IntKind.i64.wrap (i + (1:Int)),()))) (.need (inv_rch4 (((ps,bs),tk,sf,mn),s,m,losses,t,mv,r,i,popS (IntKind.u64.wrap i),N,i,mv,(mv.length:Int),(0:Int),())) (.need (List.length (upS s m i (List.drop (Int.toNat (0:Int)) mv) (0:Int) r) ≤ (1000:Nat) ∧ List.length (upS s m i (List.drop (Int.toNat (0:Int)) mv) (0:Int) r) ≤ List.length ps) (.need ((0:Int) ≤ IntKind.i64.wrap (losses - popS (IntKind.u64.wrap i)) ∧ IntKind.i64.wrap (losses - popS (IntKind.u64.wrap i)) < (↑(3:Nat):Int)) (.need ((0:Int) ≤ numW ps (upS s m i (List.drop (Int.toNat (0:Int)) mv) (0:Int) r) (0:Int) ∧ numW ps (upS s m i (List.drop (Int.toNat (0:Int)) mv) (0:Int) r) (0:Int) < (↑(4096:Nat):Int)) (.cond (decide (List.getD (List.take ((4096:Nat) / nat_lit 1) (List.drop (Int.toNat (IntKind.i64.wrap (losses - popS (IntKind.u64.wrap i))) * ((4096:Nat) / nat_lit 1)) tk)) (Int.toNat (numW ps (upS s m i (List.drop (Int.toNat (0:Int)) mv) (0:Int) r) (0:Int))) (0:Int) < (0:Int))) (.leaf (Sum.inr (Exit.ret,Lay.st L_rch2_0 noU (false,())))) (.cond (decide (List.getD (List.take ((4096:Nat) / nat_lit 1) (List.drop (Int.toNat (IntKind.i64.wrap (losses - popS (IntKind.u64.wrap i))) * ((4096:Nat) / nat_lit 1)) tk)) (Int.toNat (numW ps (upS s m i (List.drop (Int.toNat (0:Int)) mv) (0:Int) r) (0:Int))) (0:Int) > t)) (.leaf (Sum.inr (Exit.ret,Lay.st L_rch2_0 noU (false,())))) (.leaf (Sum.inl (((ps,bs),tk,sf,mn),s,m,losses,t,mv,upS s m i (List.drop (Int.toNat (0:Int)) mv) (0:Int) r,N,IntKind.i64.wrap (i + (1:Int)),()))))))))))) (.leaf (Sum.inr (Exit.exit (2:Nat),Lay.st L_rch2_1 noU ()))):=by kernel_rfl
def inv_rch2:((List Int × List (Int × (Int × (Int × V)))) × (List Int × (List Bool × Int))) × List Int × List Int × Int × Int × List Int × List Int × Int × Int × Unit → Prop:=fun (((ps,bs),(tk,(sf,mn))),s,m,losses,t,mv,r,N,i,()) => 0 ≤ i ∧ i ≤ N ∧ N ≤ 16 ∧ OkR ps s m ∧ (0 ≤ losses ∧ losses ≤ 2) ∧ (∀ x ∈ mv,0 ≤ x ∧ x < ps.length) ∧ (mv.length:Int) ≤ 4 ∧ r.length = ps.length ∧ inR r ps = true
def O_rch2:((List Int × List (Int × (Int × (Int × V)))) × (List Int × (List Bool × Int))) × List Int × List Int × Int × Int × List Int × List Int × Int × Int × Unit → Tree (Exit × St):=fun (((ps,bs),(tk,(sf,mn))),s,m,losses,t,mv,r,N,i,()) => .cond (setsS ps tk s m losses t mv (N - i).toNat i r) (.leaf (.exit 2,L_rch2_1.st noU ())) (.leaf (.ret,L_rch2_0.st noU ((false),())))
def R_rch2:LRun:=runOf 98 L_rch2 (fun x => x) (inv_rch2) (O_rch2)
theorem K_rch2:LoopOk P [] 98 none noU C_rch2 (R_rch2):=by
  refine loop_of hm (cx:=[c_ones.gc,c_number.gc]) [(4,R_rch4)] (xl:=X_rch2) (α:=((List Int × List (Int × (Int × (Int × V)))) × (List Int × (List Bool × Int))) × List Int × List Int × Int × Int × List Int × List Int × Int × Int × Unit) (fun x => x) (fun (((ps,bs),(tk,(sf,mn))),s,m,losses,t,mv,r,N,i,()) => (N - i).toNat) (fun _ => rfl) (by kernel_rfl) (by kernel_rfl) ?_ (by kernel_rfl) ⟨K_rch4,trivial⟩ ?_
  · intro e S L' h
    unfold X_rch2 at h
    split at h <;> first | (cases h; done) | (cases h; kernel_rfl) | (rcases bif_some h with h | h <;> cases h <;> kernel_rfl)
  · rintro ⟨⟨⟨ps,bs⟩,⟨tk,⟨sf,mn⟩⟩⟩,s,m,losses,t,mv,r,N,i,⟨⟩⟩ hinv Q hQ
    refine hold_of_eq (B_rch2 ps bs tk sf mn s m losses t mv r N i) ?_
    obtain ⟨h0,h1,h2,hk,⟨h3,h4⟩,h5,h6,h7,h8⟩:=hinv
    unfold O_rch2 at hQ
    dsimp only at hQ
    rw [W_id (n:=i + 1) (by omega) (by omega)]
    refine ⟨fun c1 => ?_,fun c1 => ?_⟩
    · have d1:=of_decide_eq_true c1
      have hm:(N - (i + 1)).toNat < (N - i).toNat:=by omega
      have hsl:=hk.sl
      have hml:=hk.ml
      have hl4:=hk.l4
      rw [U_id h0 (by omega)]
      rw [show (N - i).toNat = (N - (i + 1)).toNat + 1 by omega,setsS] at hQ
      refine ⟨⟨h0,by omega⟩,fun c2 => ?_,fun c2 => ?_⟩
      · have d2:popS i > losses:=of_decide_eq_true c2
        rw [if_pos d2] at hQ
        exact ⟨⟨⟨by omega,by omega,h2,hk,⟨h3,h4⟩,h5,h6,h7,h8⟩,hm⟩,hQ⟩
      · have d2:¬ popS i > losses:=of_decide_eq_false c2
        rw [if_neg d2] at hQ
        have hp:=popS_rng i
        obtain ⟨u1,u2⟩:=upS_ok hk (set:=i) (k:=0) h5 h7 h8
        have u3:=num_rng hk.pb hk.l4 u1 u2
        rw [W_id (n:=losses - popS i) (by omega) (by omega)]
        simp only [Int.toNat_zero,List.drop_zero]
        refine ⟨⟨rfl,by decide,by omega,by omega,fun x hx => by rw [hsl]; exact h5 x hx,by omega,by omega⟩,⟨by omega,by omega⟩,⟨by omega,by omega⟩,⟨by omega,by omega⟩,fun c3 => ?_,fun c3 => ⟨fun c4 => ?_,fun c4 => ?_⟩⟩
        · have d3:tkS tk (losses - popS i) (numW ps (upS s m i mv 0 r) 0) < 0:=of_decide_eq_true c3
          rw [if_pos (.inl d3)] at hQ
          exact hQ.2 rfl
        · have d4:tkS tk (losses - popS i) (numW ps (upS s m i mv 0 r) 0) > t:=of_decide_eq_true c4
          rw [if_pos (.inr d4)] at hQ
          exact hQ.2 rfl
        · have d3:¬ tkS tk (losses - popS i) (numW ps (upS s m i mv 0 r) 0) < 0:=of_decide_eq_false c3
          have d4:¬ tkS tk (losses - popS i) (numW ps (upS s m i mv 0 r) 0) > t:=of_decide_eq_false c4
          rw [if_neg (fun h => h.elim d3 d4)] at hQ
          exact ⟨⟨⟨by omega,by omega,h2,hk,⟨h3,h4⟩,h5,h6,u1,u2⟩,hm⟩,hQ⟩
    · have d1:=of_decide_eq_false c1
      rw [show (N - i).toNat = 0 by omega] at hQ
      exact hQ.1 rfl
def L_reaches:Lay:={ slots:=[(0,.adr (.pair (.pair tIs (.sl (.pair tI (.pair tI (.pair tI tV))))) (.pair (.arr (.int .i8) 12288) (.pair (.arr .bool 4096) tI)))),(1,.val tIs),(2,.val tIs),(3,.val tI),(4,.val (.int .i8))] }
theorem T_reaches (ps:List Int) (bs:List (Int × (Int × (Int × V)))) (tk:List Int) (sf:List Bool) (mn:Int) (s m:List Int) (losses t:Int):mTree (P:=P) [c_clone.gc] (lpOf [(0,R_rch0),(2,R_rch2)]) Try.f50 L_reaches true (((ps,bs),(tk,(sf,mn))),s,m,losses,t,()) =
  Tree.need (inv_rch0 (((ps,bs),tk,sf,mn),s,m,losses,t,[],m,(m.length:Int),(0:Int),())) (.need (s ≠ [] ∧ List.length s ≤ (1000:Nat)) (.need ((0:Int) ≤ (↑(List.length (nzS (List.drop (Int.toNat (0:Int)) m) (0:Int))):Int)) (.need (inv_rch2 (((ps,bs),tk,sf,mn),s,m,losses,t,nzS (List.drop (Int.toNat (0:Int)) m) (0:Int),s,shlI IntKind.i64 (1:Int) (↑(List.length (nzS (List.drop (Int.toNat (0:Int)) m) (0:Int))):Int),(0:Int),())) (.cond (setsS ps tk s m losses t (nzS (List.drop (Int.toNat (0:Int)) m) (0:Int)) (Int.toNat (shlI IntKind.i64 (1:Int) (↑(List.length (nzS (List.drop (Int.toNat (0:Int)) m) (0:Int))):Int) - (0:Int))) (0:Int) s) (.leaf { res:=SV.bool true,boxes:=[] }) (.leaf { res:=SV.bool false,boxes:=[] }))))):=by kernel_rfl
def c_reaches:XC P:=XC.of (α:=((List Int × List (Int × (Int × (Int × V)))) × (List Int × (List Bool × Int))) × List Int × List Int × Int × Int × Unit) 50 L_reaches (fun x => x) (fun x => x) (fun _ => rfl)
  (fun x => some (OkR x.1.1.1 x.2.1 x.2.2.1 ∧ 0 ≤ x.2.2.2.1 ∧ x.2.2.2.1 ≤ 2))
  (fun x => ⟨.bool (reachS x.1.1.1 x.1.2.1 x.2.1 x.2.2.1 x.2.2.2.1 x.2.2.2.2.1),[],[]⟩) (by kernel_rfl) (by kernel_rfl) (by
    rintro ⟨⟨⟨ps,bs⟩,⟨tk,⟨sf,mn⟩⟩⟩,s,m,losses,t,⟨⟩⟩ hp
    refine m_of hm (own:=true) (by kernel_rfl) (by kernel_rfl) (by kernel_rfl) (T_reaches ps bs tk sf mn s m losses t) ⟨K_rch0,K_rch2,trivial⟩ ?_
    try dsimp only at hp
    try dsimp only
    obtain ⟨hk,h3,h4⟩ : OkR ps s m ∧ 0 ≤ losses ∧ losses ≤ 2:=hp
    have hsl:=hk.sl
    have hml:=hk.ml
    have hl4:=hk.l4
    have hl2:=hk.l2
    have hn:=nzS_len m 0
    simp only [Int.toNat_zero,List.drop_zero,List.nil_append]
    rw [shl_one (by omega)]
    have hpw:(0:Int) ≤ 2 ^ (nzS m 0).length ∧ (2:Int) ^ (nzS m 0).length ≤ 16:=by
      have:(nzS m 0).length = 0 ∨ (nzS m 0).length = 1 ∨ (nzS m 0).length = 2 ∨ (nzS m 0).length = 3 ∨ (nzS m 0).length = 4:=by omega
      rcases this with e | e | e | e | e <;> rw [e] <;> decide
    have e:((2:Int) ^ (nzS m 0).length - 0).toNat = 2 ^ (nzS m 0).length:=by
      rw [Int.sub_zero]
      have:((2:Int) ^ (nzS m 0).length) = ((2 ^ (nzS m 0).length:Nat):Int):=by simp
      rw [this,Int.toNat_natCast]
    rw [e]
    refine ⟨⟨rfl,by decide,by omega,by omega,by decide⟩,⟨fun e0 => by rw [e0] at hsl; simp at hsl; omega,by omega⟩,by omega,⟨by decide,hpw.1,hpw.2,hk,⟨h3,h4⟩,fun x hx => ?_,by omega,hsl,hk.si⟩,fun c1 => ?_,fun c1 => ?_⟩
    · have:=nzS_rng hx; omega
    · exact congrArg (fun k:Bool => (⟨.bool k,[],[]⟩ : MOut)) (show true = reachS ps tk s m losses t from c1.symm)
    · exact congrArg (fun k:Bool => (⟨.bool k,[],[]⟩ : MOut)) (show false = reachS ps tk s m losses t from c1.symm))
end
end Go.MR
