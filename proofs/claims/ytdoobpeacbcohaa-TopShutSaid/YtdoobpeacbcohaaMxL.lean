/- Rigs: the table is filled. -/
import Derived.Test.YtdoobpeacbcohaaMxK
namespace Go.MR
open Go Go.Sx Go.Proofs
set_option linter.unusedVariables false
set_option linter.unusedSimpArgs false
noncomputable section
theorem stR_len (ps:List Int):∀ (k:Nat) (n:Int) (r:List Int),(stR ps k n r).length = r.length
  | 0,n,r => rfl
  | k + 1,n,r => by rw [stR,stR_len ps k,List.length_set]
theorem stS_len (ps:List Int) (n:Int):(stS ps n).length = ps.length:=by
  unfold stS; rw [stR_len,List.length_replicate]
theorem stR_in {ps:List Int} (hb:ps.any badP = false):∀ (k:Nat) (n:Int) (r:List Int),k ≤ ps.length → 0 ≤ n → n < 4096 → r.length = ps.length →
    (∀ i:Nat,k ≤ i → i < r.length → 0 ≤ r.getD i 0 ∧ r.getD i 0 < ps.getD i 0) → ∀ i:Nat,i < r.length → 0 ≤ (stR ps k n r).getD i 0 ∧ (stR ps k n r).getD i 0 < ps.getD i 0
  | 0,n,r,_,_,_,_,h,i,hi => h i (Nat.zero_le _) hi
  | k + 1,n,r,hk,h0,h1,hl,h,i,hi => by
    have hp:=place_ne hb (i:=k) (by omega)
    rw [stR]
    have d1:0 ≤ n.tdiv (ps.getD k 0):=Int.tdiv_nonneg h0 (by omega)
    have d2:n.tdiv (ps.getD k 0) ≤ n:=Int.tdiv_le_self _ h0
    rw [W_id (by omega) (by omega)]
    refine stR_in hb k _ _ (by omega) d1 (by omega) (by rw [List.length_set]; exact hl) (fun j hj hj2 => ?_) i (by rw [List.length_set]; exact hi)
    rw [List.length_set] at hj2
    rw [getD_set (by omega)]
    split
    · rename_i e
      subst e
      exact ⟨Int.tmod_nonneg _ h0,Int.tmod_lt_of_pos _ (by omega)⟩
    · exact h j (by omega) hj2
theorem stS_in {ps:List Int} {n:Int} (hb:ps.any badP = false) (h0:0 ≤ n) (h1:n < 4096):inR (stS ps n) ps = true:=by
  rw [inR_iff (stS_len ps n)]
  intro i hi
  rw [stS_len] at hi
  unfold stS
  exact stR_in hb ps.length n _ (Nat.le_refl _) h0 h1 List.length_replicate (fun j hj hj2 => by rw [List.length_replicate] at hj2; omega) i (by rw [List.length_replicate]; exact hi)
def manyW:List Int → Int → Int
  | q :: ps,n => manyW ps (IntKind.i64.wrap (n * q))
  | [],n => n
theorem manyW_step {ps:List Int} {i n:Int} (h0:0 ≤ i) (h:i < ps.length):manyW (ps.drop i.toNat) n = manyW (ps.drop (i + 1).toNat) (IntKind.i64.wrap (n * ps.getD i.toNat 0)):=by
  rw [drop_step (0:Int) h0 h,manyW]
theorem manyW_nil (n:Int):manyW [] n = n:=rfl
theorem manyW_eq:∀ {ps:List Int} {n:Int},ps.any badP = false → 0 ≤ n → n * prodL ps ≤ 4096 → manyW ps n = n * prodL ps
  | [],n,_,_,_ => by rw [manyW,prodL,Int.mul_one]
  | q :: ps,n,hb,h0,h1 => by
    have hq:=place_ne (i:=0) hb (by simp)
    rw [show (q :: ps).getD 0 0 = q from rfl] at hq
    rw [List.any_cons,Bool.or_eq_false_iff] at hb
    have hpr:=(prodL_rng hb.2).1
    rw [prodL,← Int.mul_assoc] at h1
    have hA:n * q ≤ 4096:=by
      have:n * q * 1 ≤ n * q * prodL ps:=Int.mul_le_mul_of_nonneg_left hpr (Int.mul_nonneg h0 (by omega))
      omega
    have hn0:0 ≤ n * q:=Int.mul_nonneg h0 (by omega)
    rw [manyW,W_id (by omega) (by omega),manyW_eq hb.2 hn0 h1,prodL,Int.mul_assoc]
def inG:List Int → List (Int × Int) → Bool
  | p :: s,g :: gs => wi p g.1 g.2 && inG s gs
  | _,_ => true
theorem inG_nil (g:List (Int × Int)):inG [] g = true:=rfl
theorem inG_step {s:List Int} {g:List (Int × Int)} {i:Int} (h0:0 ≤ i) (h:i < s.length) (h2:i < g.length):inG (s.drop i.toNat) (g.drop i.toNat) = (wi (s.getD i.toNat 0) (g.getD i.toNat (0,0)).1 (g.getD i.toNat (0,0)).2 && inG (s.drop (i + 1).toNat) (g.drop (i + 1).toNat)):=by
  rw [drop_step (0:Int) h0 h,drop_step ((0,0):Int × Int) h0 h2,inG]
def putR (n v:Int):Nat → Int → List Int → List Int
  | 0,_,tk => tk
  | k + 1,l,tk => putR n v k (l + 1) (tk.set (l.toNat * 4096 + n.toNat) v)
theorem putR_len (n v:Int):∀ (k:Nat) (l:Int) (tk:List Int),(putR n v k l tk).length = tk.length
  | 0,_,_ => rfl
  | k + 1,l,tk => by rw [putR,putR_len,List.length_set]
def safeS (ps:List Int) (bs:List Ban) (s:List Int):Bool:=decide (ixS (banS (stillS s)) bs < 0)
def inS (ps:List Int) (bs:List Ban) (g:List (Int × Int)) (n:Int):Bool:=safeS ps bs (stS ps n) && inG (stS ps n) g
def initR (ps:List Int) (bs:List Ban) (g:List (Int × Int)):Nat → Int → List Int × List Bool → List Int × List Bool
  | 0,_,x => x
  | k + 1,n,x => initR ps bs g k (n + 1) (putR n (if inS ps bs g n = true then 0 else -1) 3 0 x.1,x.2.set n.toNat (safeS ps bs (stS ps n)))
def goodN (ps:List Int) (bs:List Ban) (sf:List Bool) (tk:List Int) (l layer n:Int):Bool :=
  sf.getD n.toNat false && (decide (tk.getD (l.toNat * 4096 + n.toNat) 0 < 0) && !(bestS ps bs tk (stS ps n) l (layer - 1)).isEmpty)
def freshN (ps:List Int) (bs:List Ban) (sf:List Bool) (tk:List Int) (l layer:Int):Nat → Int → List (Int × Int) → List (Int × Int)
  | 0,_,f => f
  | k + 1,n,f => freshN ps bs sf tk l layer k (n + 1) (if goodN ps bs sf tk l layer n = true then f ++ [(l,n)] else f)
def freshL (ps:List Int) (bs:List Ban) (sf:List Bool) (tk:List Int) (many layer:Int):Nat → Int → List (Int × Int) → List (Int × Int)
  | 0,_,f => f
  | k + 1,l,f => freshL ps bs sf tk many layer k (l + 1) (freshN ps bs sf tk l layer many.toNat 0 f)
def putL (layer:Int):List (Int × Int) → List Int → List Int
  | x :: f,tk => putL layer f (tk.set (x.1.toNat * 4096 + x.2.toNat) layer)
  | [],tk => tk
theorem putL_step {f:List (Int × Int)} {i layer:Int} {tk:List Int} (h0:0 ≤ i) (h:i < f.length):putL layer (f.drop i.toNat) tk = putL layer (f.drop (i + 1).toNat) (tk.set ((f.getD i.toNat (0,0)).1.toNat * 4096 + (f.getD i.toNat (0,0)).2.toNat) layer):=by
  rw [drop_step ((0,0):Int × Int) h0 h,putL]
theorem putL_nil (layer:Int) (tk:List Int):putL layer [] tk = tk:=rfl
theorem putL_len (layer:Int):∀ (f:List (Int × Int)) (tk:List Int),(putL layer f tk).length = tk.length
  | [],_ => rfl
  | x :: f,tk => by rw [putL,putL_len,List.length_set]
def layR (ps:List Int) (bs:List Ban) (sf:List Bool) (many losses:Int):Nat → Int → List Int → List Int
  | 0,_,tk => tk
  | k + 1,layer,tk => if freshL ps bs sf tk many layer (losses + 1).toNat 0 [] = [] then tk
    else layR ps bs sf many losses k (layer + 1) (putL layer (freshL ps bs sf tk many layer (losses + 1).toNat 0 []) tk)
theorem B_id {n:Int} (h1 : -128 ≤ n) (h2:n ≤ 127):IntKind.wrap IntKind.i8 n = n:=by
  have e:IntKind.wrap IntKind.i8 n = (if n % 256 ≥ 128 then n % 256 - 256 else n % 256):=by
    simp [IntKind.wrap,IntKind.signed,IntKind.bits]
  rw [e]
  split <;> omega
theorem pow_le {k:Nat} (h:k ≤ 4):(8:Int) ^ k ≤ 4096:=by
  have:k = 0 ∨ k = 1 ∨ k = 2 ∨ k = 3 ∨ k = 4:=by omega
  rcases this with e | e | e | e | e <;> rw [e] <;> decide
theorem freshN_len (ps:List Int) (bs:List Ban) (sf:List Bool) (tk:List Int) (l layer:Int):∀ (k:Nat) (n:Int) (f:List (Int × Int)),(freshN ps bs sf tk l layer k n f).length ≤ f.length + k
  | 0,_,f => Nat.le_refl _
  | k + 1,n,f => by
    rw [freshN]
    have:=freshN_len ps bs sf tk l layer k (n + 1) (if goodN ps bs sf tk l layer n = true then f ++ [(l,n)] else f)
    split at this
    · rename_i h
      rw [if_pos h]
      rw [List.length_append] at this
      simp only [List.length_cons,List.length_nil] at this
      omega
    · rename_i h
      rw [if_neg h]
      omega
theorem freshN_rng {ps:List Int} {bs:List Ban} {sf:List Bool} {tk:List Int} {l layer:Int}:∀ (k:Nat) (n:Int) (f:List (Int × Int)),∀ x ∈ freshN ps bs sf tk l layer k n f,x ∈ f ∨ (x.1 = l ∧ n ≤ x.2 ∧ x.2 < n + k)
  | 0,_,f,x,hx => .inl hx
  | k + 1,n,f,x,hx => by
    rw [freshN] at hx
    rcases freshN_rng k (n + 1) _ x hx with h | h
    · split at h
      · rcases List.mem_append.1 h with h | h
        · exact .inl h
        · rw [List.mem_singleton] at h
          subst h
          exact .inr ⟨rfl,by show n ≤ n; omega,by show n < n + _; omega⟩
      · exact .inl h
    · exact .inr ⟨h.1,by omega,by omega⟩
theorem freshL_len (ps:List Int) (bs:List Ban) (sf:List Bool) (tk:List Int) (many layer:Int):∀ (k:Nat) (l:Int) (f:List (Int × Int)),(freshL ps bs sf tk many layer k l f).length ≤ f.length + k * many.toNat
  | 0,_,f => by rw [freshL]; omega
  | k + 1,l,f => by
    rw [freshL]
    have h1:=freshL_len ps bs sf tk many layer k (l + 1) (freshN ps bs sf tk l layer many.toNat 0 f)
    have h2:=freshN_len ps bs sf tk l layer many.toNat 0 f
    rw [Nat.add_mul]
    omega
theorem freshL_rng {ps:List Int} {bs:List Ban} {sf:List Bool} {tk:List Int} {many layer:Int}:∀ (k:Nat) (l:Int) (f:List (Int × Int)),0 ≤ l → l + k ≤ 3 → ∀ x ∈ freshL ps bs sf tk many layer k l f,x ∈ f ∨ (0 ≤ x.1 ∧ x.1 ≤ 2 ∧ 0 ≤ x.2 ∧ x.2 < many.toNat)
  | 0,_,f,_,_,x,hx => .inl hx
  | k + 1,l,f,h0,h1,x,hx => by
    rw [freshL] at hx
    rcases freshL_rng k (l + 1) _ (by omega) (by omega) x hx with h | h
    · rcases freshN_rng _ _ _ x h with h | h
      · exact .inl h
      · exact .inr ⟨by omega,by omega,by omega,by omega⟩
    · exact .inr h
theorem initR_len (ps:List Int) (bs:List Ban) (g:List (Int × Int)):∀ (k:Nat) (n:Int) (x:List Int × List Bool),(initR ps bs g k n x).1.length = x.1.length ∧ (initR ps bs g k n x).2.length = x.2.length
  | 0,_,x => ⟨rfl,rfl⟩
  | k + 1,n,x => by
    rw [initR]
    obtain ⟨h1,h2⟩:=initR_len ps bs g k (n + 1) (putR n (if inS ps bs g n = true then 0 else -1) 3 0 x.1,x.2.set n.toNat (safeS ps bs (stS ps n)))
    rw [h1,h2]
    exact ⟨by show (putR _ _ _ _ _).length = _; rw [putR_len],by show (List.set _ _ _).length = _; rw [List.length_set]⟩
def init0 (ps:List Int) (bs:List Ban) (g:List (Int × Int)):List Int × List Bool:=initR ps bs g (manyW ps 1).toNat 0 (List.replicate (3 * (4096 * 1)) 0,List.replicate (4096 * 1) false)
def cntSf (ps:List Int) (bs:List Ban) (g:List (Int × Int)):List Bool:=(init0 ps bs g).2
def cntTk (ps:List Int) (bs:List Ban) (g:List (Int × Int)) (losses:Int):List Int:=layR ps bs (cntSf ps bs g) (manyW ps 1) losses (65 - 1:Int).toNat 1 (init0 ps bs g).1
def L_cn0:Lay:={ slots:=[(1,.val (.sl tPart)),(2,.val tI),(3,.ptr 4183 0),(7,.ptr 25183 0),(26,.val tIs),(27,.val tI),(28,.val tI)],boxes:=[(4183,[.val tIs,.val (.sl (.pair tI (.pair tI (.pair tI tV))))]),(25183,[.val tIs,.val (.sl (.pair tI (.pair tI (.pair tI tV)))),.arr (.int .i8) 12288,.arr .bool 4096,.val tI])] }
def L_cn0_0:Lay:={ slots:=[(1,.val (.sl tPart)),(2,.val tI),(3,.ptr 4183 0),(7,.ptr 25183 0)],boxes:=[(4183,[.val tIs,.val (.sl (.pair tI (.pair tI (.pair tI tV))))]),(25183,[.val tIs,.val (.sl (.pair tI (.pair tI (.pair tI tV)))),.arr (.int .i8) 12288,.arr .bool 4096,.val tI])] }
def X_cn0:Exit → St → Option Lay
  | .exit 0,_ => some L_cn0_0
  | _,_ => none
abbrev C_cn0:Code:=loopC (bodyOf Try.f20) 0
theorem B_cn0 (g:List (Int × Int)) (losses:Int) (q:List Int) (n i:Int) (ps:List Int) (bs:List (Int × (Int × (Int × V)))) (ps' : List Int) (bs' : List (Int × (Int × (Int × V)))) (tk:List Int) (sf:List Bool) (mn:Int):loopBodyA (P:=P) [] (lpOf []) [] 183 noU (inner C_cn0) L_cn0 X_cn0 (α:=List (Int × Int) × Int × Unit × Unit × List Int × Int × Int × List Int × List (Int × (Int × (Int × V))) × List Int × List (Int × (Int × (Int × V))) × List Int × List Bool × Int × Unit) (fun x => x) (fun x => x) (g,losses,(),(),q,n,i,ps,bs,ps',bs',tk,sf,mn,()) =
  Tree.cond (decide (i < n)) (.need ((0:Int) ≤ i ∧ i < (q.length:Int)) (.leaf (Sum.inl (g,losses,(),(),q,n,IntKind.i64.wrap (i + (1:Int)),ps,bs,ps',bs',tk,sf,IntKind.i64.wrap (mn * List.getD q (Int.toNat i) (0:Int)),())))) (.leaf (Sum.inr (Exit.exit (0:Nat),Lay.st L_cn0_0 noU (g,losses,(),(),ps,bs,ps',bs',tk,sf,mn,())))):=by kernel_rfl
def inv_cn0:List (Int × Int) × Int × Unit × Unit × List Int × Int × Int × List Int × List (Int × (Int × (Int × V))) × List Int × List (Int × (Int × (Int × V))) × List Int × List Bool × Int × Unit → Prop:=fun (g,losses,(),(),q,n,i,ps,bs,ps',bs',tk,sf,mn,()) => n = q.length ∧ 0 ≤ i ∧ i ≤ n ∧ (q.length:Int) ≤ 1000
def O_cn0:List (Int × Int) × Int × Unit × Unit × List Int × Int × Int × List Int × List (Int × (Int × (Int × V))) × List Int × List (Int × (Int × (Int × V))) × List Int × List Bool × Int × Unit → Tree (Exit × St):=fun (g,losses,(),(),q,n,i,ps,bs,ps',bs',tk,sf,mn,()) => (.leaf (.exit 0,L_cn0_0.st noU (g,losses,(),(),ps,bs,ps',bs',tk,sf,(manyW (q.drop i.toNat) mn),())))
def R_cn0:LRun:=runOf 183 L_cn0 (fun x => x) (inv_cn0) (O_cn0)
theorem K_cn0:LoopOk P [] 183 none noU C_cn0 (R_cn0):=by
  refine loop_of hm (cx:=[]) [] (xl:=X_cn0) (α:=List (Int × Int) × Int × Unit × Unit × List Int × Int × Int × List Int × List (Int × (Int × (Int × V))) × List Int × List (Int × (Int × (Int × V))) × List Int × List Bool × Int × Unit) (fun x => x) (fun (g,losses,(),(),q,n,i,ps,bs,ps',bs',tk,sf,mn,()) => (n - i).toNat) (fun _ => rfl) (by kernel_rfl) (by kernel_rfl) ?_ (by kernel_rfl) trivial ?_
  · intro e S L' h
    unfold X_cn0 at h
    split at h <;> first | (cases h; done) | (cases h; kernel_rfl) | (rcases bif_some h with h | h <;> cases h <;> kernel_rfl)
  · rintro ⟨g,losses,⟨⟩,⟨⟩,q,n,i,ps,bs,ps',bs',tk,sf,mn,⟨⟩⟩ hinv Q hQ
    refine hold_of_eq (B_cn0 g losses q n i ps bs ps' bs' tk sf mn) ?_
    obtain ⟨rfl,h0,h1,h2⟩:=hinv
    rw [W_id (n:=i + 1) (by omega) (by omega)]
    have hQ' : Q (.exit 0,L_cn0_0.st noU (g,losses,(),(),ps,bs,ps',bs',tk,sf,manyW (q.drop i.toNat) mn,())):=hQ
    refine ⟨fun c1 => ?_,fun c1 => ?_⟩
    · have d1:=of_decide_eq_true c1
      have hm:((q.length:Int) - (i + 1)).toNat < ((q.length:Int) - i).toNat:=by omega
      rw [manyW_step h0 d1] at hQ'
      exact ⟨⟨h0,d1⟩,⟨⟨rfl,by omega,by omega,h2⟩,hm⟩,hQ'⟩
    · have d1:=of_decide_eq_false c1
      rw [drop_end d1,manyW_nil] at hQ'
      exact hQ'
def L_cn4:Lay:={ slots:=[(1,.val (.sl tPart)),(2,.val tI),(3,.ptr 4183 0),(7,.ptr 25183 0),(10,.val tI),(12,.val .bool),(44,.val tI),(45,.val tI),(67,.val tIs),(68,.val tI),(69,.val tI)],boxes:=[(4183,[.val tIs,.val (.sl (.pair tI (.pair tI (.pair tI tV))))]),(25183,[.val tIs,.val (.sl (.pair tI (.pair tI (.pair tI tV)))),.arr (.int .i8) 12288,.arr .bool 4096,.val tI])] }
def L_cn4_0:Lay:={ slots:=[(1,.val (.sl tPart)),(2,.val tI),(3,.ptr 4183 0),(7,.ptr 25183 0),(10,.val tI),(12,.val .bool),(44,.val tI),(45,.val tI)],boxes:=[(4183,[.val tIs,.val (.sl (.pair tI (.pair tI (.pair tI tV))))]),(25183,[.val tIs,.val (.sl (.pair tI (.pair tI (.pair tI tV)))),.arr (.int .i8) 12288,.arr .bool 4096,.val tI])] }
def X_cn4:Exit → St → Option Lay
  | .exit 4,_ => some L_cn4_0
  | _,_ => none
abbrev C_cn4:Code:=loopC (inner (loopC (bodyOf Try.f20) 2)) 4
theorem B_cn4 (g:List (Int × Int)) (losses k:Int) (b:Bool) (N j:Int) (s:List Int) (n i:Int) (ps:List Int) (bs:List (Int × (Int × (Int × V)))) (ps' : List Int) (bs' : List (Int × (Int × (Int × V)))) (tk:List Int) (sf:List Bool) (mn:Int):loopBodyA (P:=P) [c_within.gc] (lpOf []) [] 183 noU (inner C_cn4) L_cn4 X_cn4 (α:=List (Int × Int) × Int × Unit × Unit × Int × Bool × Int × Int × List Int × Int × Int × List Int × List (Int × (Int × (Int × V))) × List Int × List (Int × (Int × (Int × V))) × List Int × List Bool × Int × Unit) (fun x => x) (fun x => x) (g,losses,(),(),k,b,N,j,s,n,i,ps,bs,ps',bs',tk,sf,mn,()) =
  Tree.cond (decide (i < n)) (.need ((0:Int) ≤ i ∧ i < (s.length:Int)) (.cond b (.need ((0:Int) ≤ i ∧ i < (g.length:Int)) (.need ((0:Int) ≤ i ∧ i < (g.length:Int)) (.leaf (Sum.inl (g,losses,(),(),k,wi (List.getD s (Int.toNat i) (0:Int)) (List.getD g (Int.toNat i) (0,0)).fst (List.getD g (Int.toNat i) (0,0)).snd,N,j,s,n,IntKind.i64.wrap (i + (1:Int)),ps,bs,ps',bs',tk,sf,mn,()))))) (.leaf (Sum.inl (g,losses,(),(),k,false,N,j,s,n,IntKind.i64.wrap (i + (1:Int)),ps,bs,ps',bs',tk,sf,mn,()))))) (.leaf (Sum.inr (Exit.exit (4:Nat),Lay.st L_cn4_0 noU (g,losses,(),(),k,b,N,j,ps,bs,ps',bs',tk,sf,mn,())))):=by kernel_rfl
def inv_cn4:List (Int × Int) × Int × Unit × Unit × Int × Bool × Int × Int × List Int × Int × Int × List Int × List (Int × (Int × (Int × V))) × List Int × List (Int × (Int × (Int × V))) × List Int × List Bool × Int × Unit → Prop:=fun (g,losses,(),(),k,b,N,j,s,n,i,ps,bs,ps',bs',tk,sf,mn,()) => n = s.length ∧ 0 ≤ i ∧ i ≤ n ∧ (s.length:Int) ≤ 1000 ∧ s.length ≤ g.length
def O_cn4:List (Int × Int) × Int × Unit × Unit × Int × Bool × Int × Int × List Int × Int × Int × List Int × List (Int × (Int × (Int × V))) × List Int × List (Int × (Int × (Int × V))) × List Int × List Bool × Int × Unit → Tree (Exit × St):=fun (g,losses,(),(),k,b,N,j,s,n,i,ps,bs,ps',bs',tk,sf,mn,()) => (.leaf (.exit 4,L_cn4_0.st noU (g,losses,(),(),k,(b && inG (s.drop i.toNat) (g.drop i.toNat)),N,j,ps,bs,ps',bs',tk,sf,mn,())))
def R_cn4:LRun:=runOf 183 L_cn4 (fun x => x) (inv_cn4) (O_cn4)
theorem K_cn4:LoopOk P [] 183 none noU C_cn4 (R_cn4):=by
  refine loop_of hm (cx:=[c_within.gc]) [] (xl:=X_cn4) (α:=List (Int × Int) × Int × Unit × Unit × Int × Bool × Int × Int × List Int × Int × Int × List Int × List (Int × (Int × (Int × V))) × List Int × List (Int × (Int × (Int × V))) × List Int × List Bool × Int × Unit) (fun x => x) (fun (g,losses,(),(),k,b,N,j,s,n,i,ps,bs,ps',bs',tk,sf,mn,()) => (n - i).toNat) (fun _ => rfl) (by kernel_rfl) (by kernel_rfl) ?_ (by kernel_rfl) trivial ?_
  · intro e S L' h
    unfold X_cn4 at h
    split at h <;> first | (cases h; done) | (cases h; kernel_rfl) | (rcases bif_some h with h | h <;> cases h <;> kernel_rfl)
  · rintro ⟨g,losses,⟨⟩,⟨⟩,k,b,N,j,s,n,i,ps,bs,ps',bs',tk,sf,mn,⟨⟩⟩ hinv Q hQ
    refine hold_of_eq (B_cn4 g losses k b N j s n i ps bs ps' bs' tk sf mn) ?_
    obtain ⟨rfl,h0,h1,h2,h3⟩:=hinv
    rw [W_id (n:=i + 1) (by omega) (by omega)]
    have hQ' : Q (.exit 4,L_cn4_0.st noU (g,losses,(),(),k,b && inG (s.drop i.toNat) (g.drop i.toNat),N,j,ps,bs,ps',bs',tk,sf,mn,())):=hQ
    refine ⟨fun c1 => ?_,fun c1 => ?_⟩
    · have d1:=of_decide_eq_true c1
      have hm:((s.length:Int) - (i + 1)).toNat < ((s.length:Int) - i).toNat:=by omega
      have d2:i < g.length:=by omega
      rw [inG_step h0 d1 d2] at hQ'
      refine ⟨⟨h0,d1⟩,fun c2 => ⟨⟨h0,d2⟩,⟨h0,d2⟩,⟨⟨rfl,by omega,by omega,h2,h3⟩,hm⟩,?_⟩,fun c2 => ⟨⟨⟨rfl,by omega,by omega,h2,h3⟩,hm⟩,?_⟩⟩
      · rw [c2,Bool.true_and] at hQ'
        exact hQ'
      · rw [c2,Bool.false_and] at hQ'
        exact hQ'
    · have d1:=of_decide_eq_false c1
      rw [drop_end d1,inG_nil,Bool.and_true] at hQ'
      exact hQ'
def L_cn6:Lay:={ slots:=[(1,.val (.sl tPart)),(2,.val tI),(3,.ptr 4183 0),(7,.ptr 25183 0),(10,.val tI),(12,.val .bool),(44,.val tI),(45,.val tI),(90,.val tI)],boxes:=[(4183,[.val tIs,.val (.sl (.pair tI (.pair tI (.pair tI tV))))]),(25183,[.val tIs,.val (.sl (.pair tI (.pair tI (.pair tI tV)))),.arr (.int .i8) 12288,.arr .bool 4096,.val tI])] }
def L_cn6_0:Lay:={ slots:=[(1,.val (.sl tPart)),(2,.val tI),(3,.ptr 4183 0),(7,.ptr 25183 0),(44,.val tI),(45,.val tI)],boxes:=[(4183,[.val tIs,.val (.sl (.pair tI (.pair tI (.pair tI tV))))]),(25183,[.val tIs,.val (.sl (.pair tI (.pair tI (.pair tI tV)))),.arr (.int .i8) 12288,.arr .bool 4096,.val tI])] }
def X_cn6:Exit → St → Option Lay
  | .exit 6,_ => some L_cn6_0
  | _,_ => none
abbrev C_cn6:Code:=loopC (inner (loopC (bodyOf Try.f20) 2)) 6
theorem B_cn6 (g:List (Int × Int)) (losses k:Int) (b:Bool) (N j l:Int) (ps:List Int) (bs:List (Int × (Int × (Int × V)))) (ps' : List Int) (bs' : List (Int × (Int × (Int × V)))) (tk:List Int) (sf:List Bool) (mn:Int):loopBodyA (P:=P) [] (lpOf []) [] 183 noU (inner C_cn6) L_cn6 X_cn6 (α:=List (Int × Int) × Int × Unit × Unit × Int × Bool × Int × Int × Int × List Int × List (Int × (Int × (Int × V))) × List Int × List (Int × (Int × (Int × V))) × List Int × List Bool × Int × Unit) (fun x => x) (fun x => x) (g,losses,(),(),k,b,N,j,l,ps,bs,ps',bs',tk,sf,mn,()) =
  Tree.cond (decide (l < (3:Int))) (.need ((0:Int) ≤ l ∧ l < (↑(3:Nat):Int)) (.need ((0:Int) ≤ k ∧ k < (↑(4096:Nat):Int)) (.need (Int.toNat l * (4096:Nat) + Int.toNat k < List.length tk) (.cond b (.need ((0:Int) ≤ l ∧ l < (↑(3:Nat):Int)) (.need ((0:Int) ≤ k ∧ k < (↑(4096:Nat):Int)) (.need (Int.toNat l * (4096:Nat) + Int.toNat k < List.length (List.set tk (Int.toNat l * (4096:Nat) + Int.toNat k) (-1:Int))) (.leaf (Sum.inl (g,losses,(),(),k,b,N,j,IntKind.i64.wrap (l + (1:Int)),ps,bs,ps',bs',List.set (List.set tk (Int.toNat l * (4096:Nat) + Int.toNat k) (-1:Int)) (Int.toNat l * (4096:Nat) + Int.toNat k) (0:Int),sf,mn,())))))) (.leaf (Sum.inl (g,losses,(),(),k,b,N,j,IntKind.i64.wrap (l + (1:Int)),ps,bs,ps',bs',List.set tk (Int.toNat l * (4096:Nat) + Int.toNat k) (-1:Int),sf,mn,()))))))) (.leaf (Sum.inr (Exit.exit (6:Nat),Lay.st L_cn6_0 noU (g,losses,(),(),N,j,ps,bs,ps',bs',tk,sf,mn,())))):=by kernel_rfl
def inv_cn6:List (Int × Int) × Int × Unit × Unit × Int × Bool × Int × Int × Int × List Int × List (Int × (Int × (Int × V))) × List Int × List (Int × (Int × (Int × V))) × List Int × List Bool × Int × Unit → Prop:=fun (g,losses,(),(),k,b,N,j,l,ps,bs,ps',bs',tk,sf,mn,()) => 0 ≤ l ∧ l ≤ 3 ∧ 0 ≤ k ∧ k < 4096 ∧ tk.length = 12288
def O_cn6:List (Int × Int) × Int × Unit × Unit × Int × Bool × Int × Int × Int × List Int × List (Int × (Int × (Int × V))) × List Int × List (Int × (Int × (Int × V))) × List Int × List Bool × Int × Unit → Tree (Exit × St):=fun (g,losses,(),(),k,b,N,j,l,ps,bs,ps',bs',tk,sf,mn,()) => (.leaf (.exit 6,L_cn6_0.st noU (g,losses,(),(),N,j,ps,bs,ps',bs',(putR k (if b = true then 0 else -1) (3 - l).toNat l tk),sf,mn,())))
def R_cn6:LRun:=runOf 183 L_cn6 (fun x => x) (inv_cn6) (O_cn6)
theorem K_cn6:LoopOk P [] 183 none noU C_cn6 (R_cn6):=by
  refine loop_of hm (cx:=[]) [] (xl:=X_cn6) (α:=List (Int × Int) × Int × Unit × Unit × Int × Bool × Int × Int × Int × List Int × List (Int × (Int × (Int × V))) × List Int × List (Int × (Int × (Int × V))) × List Int × List Bool × Int × Unit) (fun x => x) (fun (g,losses,(),(),k,b,N,j,l,ps,bs,ps',bs',tk,sf,mn,()) => (3 - l).toNat) (fun _ => rfl) (by kernel_rfl) (by kernel_rfl) ?_ (by kernel_rfl) trivial ?_
  · intro e S L' h
    unfold X_cn6 at h
    split at h <;> first | (cases h; done) | (cases h; kernel_rfl) | (rcases bif_some h with h | h <;> cases h <;> kernel_rfl)
  · rintro ⟨g,losses,⟨⟩,⟨⟩,k,b,N,j,l,ps,bs,ps',bs',tk,sf,mn,⟨⟩⟩ hinv Q hQ
    refine hold_of_eq (B_cn6 g losses k b N j l ps bs ps' bs' tk sf mn) ?_
    obtain ⟨h0,h1,h2,h3,h4⟩:=hinv
    rw [W_id (n:=l + 1) (by omega) (by omega)]
    have hQ' : Q (.exit 6,L_cn6_0.st noU (g,losses,(),(),N,j,ps,bs,ps',bs',putR k (if b = true then 0 else -1) (3 - l).toNat l tk,sf,mn,())):=hQ
    refine ⟨fun c1 => ?_,fun c1 => ?_⟩
    · have d1:l < 3:=of_decide_eq_true c1
      have hm:(3 - (l + 1)).toNat < (3 - l).toNat:=by omega
      have b1:l.toNat * 4096 + k.toNat < tk.length:=by omega
      rw [show (3 - l).toNat = (3 - (l + 1)).toNat + 1 by omega,putR] at hQ'
      refine ⟨⟨h0,d1⟩,⟨h2,h3⟩,b1,fun c2 => ⟨⟨h0,d1⟩,⟨h2,h3⟩,by rw [List.length_set]; exact b1,?_⟩,fun c2 => ?_⟩
      · rw [List.set_set]
        rw [if_pos c2] at hQ'
        refine ⟨⟨⟨by omega,by omega,h2,h3,by rw [List.length_set]; exact h4⟩,hm⟩,?_⟩
        unfold O_cn6
        dsimp only
        rw [if_pos c2]
        exact hQ'
      · rw [if_neg (by rw [c2]; decide)] at hQ'
        refine ⟨⟨⟨by omega,by omega,h2,h3,by rw [List.length_set]; exact h4⟩,hm⟩,?_⟩
        unfold O_cn6
        dsimp only
        rw [if_neg (by rw [c2]; decide)]
        exact hQ'
    · have d1:¬ l < 3:=of_decide_eq_false c1
      rw [show (3 - l).toNat = 0 by omega] at hQ'
      exact hQ'
def L_cn2:Lay:={ slots:=[(1,.val (.sl tPart)),(2,.val tI),(3,.ptr 4183 0),(7,.ptr 25183 0),(44,.val tI),(45,.val tI)],boxes:=[(4183,[.val tIs,.val (.sl (.pair tI (.pair tI (.pair tI tV))))]),(25183,[.val tIs,.val (.sl (.pair tI (.pair tI (.pair tI tV)))),.arr (.int .i8) 12288,.arr .bool 4096,.val tI])] }
def L_cn2_0:Lay:={ slots:=[(2,.val tI),(7,.ptr 25183 0)],boxes:=[(25183,[.val tIs,.val (.sl (.pair tI (.pair tI (.pair tI tV)))),.arr (.int .i8) 12288,.arr .bool 4096,.val tI])] }
def X_cn2:Exit → St → Option Lay
  | .exit 2,_ => some L_cn2_0
  | _,_ => none
abbrev C_cn2:Code:=loopC (bodyOf Try.f20) 2
theorem B_cn2 (g:List (Int × Int)) (losses N n:Int) (ps:List Int) (bs:List (Int × (Int × (Int × V)))) (ps' : List Int) (bs' : List (Int × (Int × (Int × V)))) (tk:List Int) (sf:List Bool) (mn:Int):loopBodyA (P:=P) [c_state.gc,c_still.gc,c_bans.gc] (lpOf [(4,R_cn4),(6,R_cn6)]) [] 183 noU (inner C_cn2) L_cn2 X_cn2 (α:=List (Int × Int) × Int × Unit × Unit × Int × Int × List Int × List (Int × (Int × (Int × V))) × List Int × List (Int × (Int × (Int × V))) × List Int × List Bool × Int × Unit) (fun x => x) (fun x => x) (g,losses,(),(),N,n,ps,bs,ps',bs',tk,sf,mn,()) =
  Tree.cond (decide (n < N)) (.need (List.length ps' ≤ (1000:Nat) ∧ List.any ps' badP = false) (.need (List.length (stS ps' n) ≤ (1000:Nat)) (.need ((bs.length:Int) < (2:Int) ^ (62:Nat) ∧ ∀ (b:Ban),b ∈ bs → okB (List.length (stillS (stS ps' n))) b) (.need ((0:Int) ≤ n ∧ n < (↑(4096:Nat):Int)) (.need (Int.toNat n < List.length sf) (.need ((0:Int) ≤ n ∧ n < (↑(4096:Nat):Int)) (.need (Int.toNat n < List.length (List.set sf (Int.toNat n) (decide (ixS (banS (stillS (stS ps' n))) bs < (0:Int))))) (.need (inv_cn4 (g,losses,(),(),n,List.getD (List.set sf (Int.toNat n) (decide (ixS (banS (stillS (stS ps' n))) bs < (0:Int)))) (Int.toNat n) false,N,n,stS ps' n,(↑(List.length (stS ps' n)):Int),(0:Int),ps,bs,ps',bs',tk,List.set sf (Int.toNat n) (decide (ixS (banS (stillS (stS ps' n))) bs < (0:Int))),mn,())) (.need (inv_cn6 (g,losses,(),(),n,List.getD (List.set sf (Int.toNat n) (decide (ixS (banS (stillS (stS ps' n))) bs < (0:Int)))) (Int.toNat n) false && inG (List.drop (Int.toNat (0:Int)) (stS ps' n)) (List.drop (Int.toNat (0:Int)) g),N,n,(0:Int),ps,bs,ps',bs',tk,List.set sf (Int.toNat n) (decide (ixS (banS (stillS (stS ps' n))) bs < (0:Int))),mn,())) (.leaf (Sum.inl (g,losses,(),(),N,IntKind.i64.wrap (n + (1:Int)),ps,bs,ps',bs',putR n (if (List.getD (List.set sf (Int.toNat n) (decide (ixS (banS (stillS (stS ps' n))) bs < (0:Int)))) (Int.toNat n) false && inG (List.drop (Int.toNat (0:Int)) (stS ps' n)) (List.drop (Int.toNat (0:Int)) g)) = true then (0:Int) else (-1:Int)) (Int.toNat ((3:Int) - (0:Int))) (0:Int) tk,List.set sf (Int.toNat n) (decide (ixS (banS (stillS (stS ps' n))) bs < (0:Int))),mn,())))))))))))) (.leaf (Sum.inr (Exit.exit (2:Nat),Lay.st L_cn2_0 noU (losses,(),ps',bs',tk,sf,mn,())))):=by kernel_rfl
def inv_cn2:List (Int × Int) × Int × Unit × Unit × Int × Int × List Int × List (Int × (Int × (Int × V))) × List Int × List (Int × (Int × (Int × V))) × List Int × List Bool × Int × Unit → Prop:=fun (g,losses,(),(),N,n,ps,bs,ps',bs',tk,sf,mn,()) => 0 ≤ n ∧ n ≤ N ∧ N ≤ 4096 ∧ tk.length = 12288 ∧ sf.length = 4096 ∧ ps' = ps ∧ bs' = bs ∧ (2 ≤ ps.length ∧ ps.length ≤ 4) ∧ ps.any badP = false ∧ g.length = ps.length ∧ bs.length ≤ 24 ∧ (∀ b ∈ bs,okB ps.length b)
def O_cn2:List (Int × Int) × Int × Unit × Unit × Int × Int × List Int × List (Int × (Int × (Int × V))) × List Int × List (Int × (Int × (Int × V))) × List Int × List Bool × Int × Unit → Tree (Exit × St):=fun (g,losses,(),(),N,n,ps,bs,ps',bs',tk,sf,mn,()) => (.leaf (.exit 2,L_cn2_0.st noU (losses,(),ps',bs',((initR ps bs g (N - n).toNat n (tk,sf)).1),((initR ps bs g (N - n).toNat n (tk,sf)).2),mn,())))
def R_cn2:LRun:=runOf 183 L_cn2 (fun x => x) (inv_cn2) (O_cn2)
theorem K_cn2:LoopOk P [] 183 none noU C_cn2 (R_cn2):=by
  refine loop_of hm (cx:=[c_state.gc,c_still.gc,c_bans.gc]) [(4,R_cn4),(6,R_cn6)] (xl:=X_cn2) (α:=List (Int × Int) × Int × Unit × Unit × Int × Int × List Int × List (Int × (Int × (Int × V))) × List Int × List (Int × (Int × (Int × V))) × List Int × List Bool × Int × Unit) (fun x => x) (fun (g,losses,(),(),N,n,ps,bs,ps',bs',tk,sf,mn,()) => (N - n).toNat) (fun _ => rfl) (by kernel_rfl) (by kernel_rfl) ?_ (by kernel_rfl) ⟨K_cn4,K_cn6,trivial⟩ ?_
  · intro e S L' h
    unfold X_cn2 at h
    split at h <;> first | (cases h; done) | (cases h; kernel_rfl) | (rcases bif_some h with h | h <;> cases h <;> kernel_rfl)
  · rintro ⟨g,losses,⟨⟩,⟨⟩,N,n,ps,bs,ps',bs',tk,sf,mn,⟨⟩⟩ hinv Q hQ
    refine hold_of_eq (B_cn2 g losses N n ps bs ps' bs' tk sf mn) ?_
    obtain ⟨h0,h1,h2,h3,h4,rfl,rfl,⟨h5,h6⟩,h7,h8,h9,h10⟩:=hinv
    have hQ' : Q (.exit 2,L_cn2_0.st noU (losses,(),ps',bs',(initR ps' bs' g (N - n).toNat n (tk,sf)).1,(initR ps' bs' g (N - n).toNat n (tk,sf)).2,mn,())):=hQ
    refine ⟨fun c1 => ?_,fun c1 => ?_⟩
    · have d1:n < N:=of_decide_eq_true c1
      have hm:(N - (n + 1)).toNat < (N - n).toNat:=by omega
      rw [W_id (n:=n + 1) (by omega) (by omega)]
      rw [show (N - n).toNat = (N - (n + 1)).toNat + 1 by omega,initR] at hQ'
      have hsl:=stS_len ps' n
      have b1:n.toNat < sf.length:=by omega
      have e:∀ v:Bool,(sf.set n.toNat v).getD n.toNat false = v:=fun v => by
        rw [List.getD_eq_getElem?_getD,List.getElem?_set_self b1]; rfl
      rw [e]
      simp only [Int.toNat_zero,List.drop_zero]
      refine ⟨⟨by omega,h7⟩,by omega,⟨by omega,fun b hb => ?_⟩,⟨h0,by omega⟩,b1,⟨h0,by omega⟩,by rw [List.length_set]; exact b1,⟨rfl,by omega,by omega,by omega,by omega⟩,⟨by omega,by omega,h0,by omega,h3⟩,⟨⟨by omega,by omega,h2,?_,by rw [List.length_set]; exact h4,rfl,rfl,⟨h5,h6⟩,h7,h8,h9,h10⟩,hm⟩,hQ'⟩
      · rw [stillS_len,hsl]
        exact h10 b hb
      · rw [putR_len]; exact h3
    · have d1:¬ n < N:=of_decide_eq_false c1
      rw [show (N - n).toNat = 0 by omega] at hQ'
      exact hQ'
def L_cn12:Lay:={ slots:=[(2,.val tI),(7,.ptr 25183 0),(16,.val (.int .i8)),(17,.row 113 tPart),(18,.val tI),(115,.val tI),(116,.val tI),(122,.val tI),(123,.val tI)],boxes:=[(25183,[.val tIs,.val (.sl (.pair tI (.pair tI (.pair tI tV)))),.arr (.int .i8) 12288,.arr .bool 4096,.val tI])] }
def L_cn12_0:Lay:={ slots:=[(2,.val tI),(7,.ptr 25183 0),(16,.val (.int .i8)),(17,.row 113 tPart),(115,.val tI),(116,.val tI)],boxes:=[(25183,[.val tIs,.val (.sl (.pair tI (.pair tI (.pair tI tV)))),.arr (.int .i8) 12288,.arr .bool 4096,.val tI])] }
def X_cn12:Exit → St → Option Lay
  | .exit 12,_ => some L_cn12_0
  | _,_ => none
abbrev C_cn12:Code:=loopC (inner (loopC (inner (loopC (bodyOf Try.f20) 8)) 10)) 12
theorem B_cn12 (losses layer:Int) (f:List (Int × Int)) (l L k N n:Int) (ps' : List Int) (bs' : List (Int × (Int × (Int × V)))) (tk:List Int) (sf:List Bool) (mn:Int):loopBodyA (P:=P) [c_state.gc,c_bst.gc] (lpOf []) [] 183 noU (inner C_cn12) L_cn12 X_cn12 (α:=Int × Unit × Int × List (Int × Int) × Int × Int × Int × Int × Int × List Int × List (Int × (Int × (Int × V))) × List Int × List Bool × Int × Unit) (fun x => x) (fun x => x) (losses,(),layer,f,l,L,k,N,n,ps',bs',tk,sf,mn,()) =
  Tree.cond (decide (n < N)) (.need ((0:Int) ≤ n ∧ n < (↑(4096:Nat):Int)) (.need (Int.toNat n < List.length sf) (.cond (List.getD sf (Int.toNat n) false) (.need ((0:Int) ≤ l ∧ l < (↑(3:Nat):Int)) (.need ((0:Int) ≤ n ∧ n < (↑(4096:Nat):Int)) (.need (Int.toNat l * (4096:Nat) + Int.toNat n < List.length tk) (.cond (decide (List.getD tk (Int.toNat l * (4096:Nat) + Int.toNat n) (0:Int) < (0:Int))) (.need (List.length ps' ≤ (1000:Nat) ∧ List.any ps' badP = false) (.need (StOk ps' bs' (stS ps' n) ∧ (0:Int) ≤ l ∧ l ≤ (2:Int)) (.cond (!List.isEmpty (bestS ps' bs' tk (stS ps' n) l (IntKind.wrap IntKind.i8 (layer - (1:Int))))) (.need ((List.length f + List.length [(l,n)]) * (16:Nat) ≤ (140737488355328:Nat)) (.leaf (Sum.inl (losses,(),layer,f ++ [(l,n)],l,L,k,N,IntKind.i64.wrap (n + (1:Int)),ps',bs',tk,sf,mn,())))) (.leaf (Sum.inl (losses,(),layer,f,l,L,k,N,IntKind.i64.wrap (n + (1:Int)),ps',bs',tk,sf,mn,())))))) (.leaf (Sum.inl (losses,(),layer,f,l,L,k,N,IntKind.i64.wrap (n + (1:Int)),ps',bs',tk,sf,mn,()))))))) (.leaf (Sum.inl (losses,(),layer,f,l,L,k,N,IntKind.i64.wrap (n + (1:Int)),ps',bs',tk,sf,mn,())))))) (.leaf (Sum.inr (Exit.exit (12:Nat),Lay.st L_cn12_0 noU (losses,(),layer,f,L,k,ps',bs',tk,sf,mn,())))):=by kernel_rfl
def inv_cn12:Int × Unit × Int × List (Int × Int) × Int × Int × Int × Int × Int × List Int × List (Int × (Int × (Int × V))) × List Int × List Bool × Int × Unit → Prop:=fun (losses,(),layer,f,l,L,k,N,n,ps',bs',tk,sf,mn,()) => 0 ≤ n ∧ n ≤ N ∧ N ≤ 4096 ∧ tk.length = 12288 ∧ sf.length = 4096 ∧ (2 ≤ ps'.length ∧ ps'.length ≤ 4) ∧ ps'.any badP = false ∧ bs'.length ≤ 24 ∧ (∀ b ∈ bs',okB ps'.length b) ∧ 0 ≤ l ∧ l ≤ 2 ∧ 1 ≤ layer ∧ layer ≤ 64 ∧ (f.length:Int) + (N - n) ≤ 100000
def O_cn12:Int × Unit × Int × List (Int × Int) × Int × Int × Int × Int × Int × List Int × List (Int × (Int × (Int × V))) × List Int × List Bool × Int × Unit → Tree (Exit × St):=fun (losses,(),layer,f,l,L,k,N,n,ps',bs',tk,sf,mn,()) => (.leaf (.exit 12,L_cn12_0.st noU (losses,(),layer,(freshN ps' bs' sf tk l layer (N - n).toNat n f),L,k,ps',bs',tk,sf,mn,())))
def R_cn12:LRun:=runOf 183 L_cn12 (fun x => x) (inv_cn12) (O_cn12)
theorem K_cn12:LoopOk P [] 183 none noU C_cn12 (R_cn12):=by
  refine loop_of hm (cx:=[c_state.gc,c_bst.gc]) [] (xl:=X_cn12) (α:=Int × Unit × Int × List (Int × Int) × Int × Int × Int × Int × Int × List Int × List (Int × (Int × (Int × V))) × List Int × List Bool × Int × Unit) (fun x => x) (fun (losses,(),layer,f,l,L,k,N,n,ps',bs',tk,sf,mn,()) => (N - n).toNat) (fun _ => rfl) (by kernel_rfl) (by kernel_rfl) ?_ (by kernel_rfl) trivial ?_
  · intro e S L' h
    unfold X_cn12 at h
    split at h <;> first | (cases h; done) | (cases h; kernel_rfl) | (rcases bif_some h with h | h <;> cases h <;> kernel_rfl)
  · rintro ⟨losses,⟨⟩,layer,f,l,L,k,N,n,ps',bs',tk,sf,mn,⟨⟩⟩ hinv Q hQ
    refine hold_of_eq (B_cn12 losses layer f l L k N n ps' bs' tk sf mn) ?_
    obtain ⟨h0,h1,h2,h3,h4,⟨h5,h6⟩,h7,h9,h10,h11,h12,h13,h14,h15⟩:=hinv
    have hQ' : Q (.exit 12,L_cn12_0.st noU (losses,(),layer,freshN ps' bs' sf tk l layer (N - n).toNat n f,L,k,ps',bs',tk,sf,mn,())):=hQ
    refine ⟨fun c1 => ?_,fun c1 => ?_⟩
    · have d1:n < N:=of_decide_eq_true c1
      have hm:(N - (n + 1)).toNat < (N - n).toNat:=by omega
      rw [W_id (n:=n + 1) (by omega) (by omega),B_id (n:=layer - 1) (by omega) (by omega)]
      rw [show (N - n).toNat = (N - (n + 1)).toNat + 1 by omega,freshN] at hQ'
      have hsl:=stS_len ps' n
      have b1:n.toNat < sf.length:=by omega
      have b2:l.toNat * 4096 + n.toNat < tk.length:=by omega
      have hk:StOk ps' bs' (stS ps' n):=⟨h5,h6,h7,hsl,stS_in h7 h0 (by omega),h9,h10⟩
      have no:goodN ps' bs' sf tk l layer n = false → (O_cn12 (losses,(),layer,f,l,L,k,N,n + 1,ps',bs',tk,sf,mn,())).holds Q:=fun hg => by
        rw [hg,if_neg (by decide)] at hQ'
        exact hQ'
      have inv' : inv_cn12 (losses,(),layer,f,l,L,k,N,n + 1,ps',bs',tk,sf,mn,()):=⟨by omega,by omega,h2,h3,h4,⟨h5,h6⟩,h7,h9,h10,h11,h12,h13,h14,by omega⟩
      refine ⟨⟨h0,by omega⟩,b1,fun c2 => ⟨⟨h11,by omega⟩,⟨h0,by omega⟩,b2,fun c3 => ⟨⟨by omega,h7⟩,⟨hk,h11,h12⟩,fun c4 => ⟨?_,⟨⟨by omega,by omega,h2,h3,h4,⟨h5,h6⟩,h7,h9,h10,h11,h12,h13,h14,?_⟩,hm⟩,?_⟩,fun c4 => ⟨⟨inv',hm⟩,no ?_⟩⟩,fun c3 => ⟨⟨inv',hm⟩,no ?_⟩⟩,fun c2 => ⟨⟨inv',hm⟩,no ?_⟩⟩
      · show (f.length + 1) * 16 ≤ 140737488355328; omega
      · show ((f ++ [(l,n)]).length:Int) + (N - (n + 1)) ≤ 100000
        rw [List.length_append]; show ((f.length + 1:Nat):Int) + _ ≤ _; omega
      · have hg:goodN ps' bs' sf tk l layer n = true:=by
          unfold goodN
          rw [show sf.getD n.toNat false = true from c2,show decide (tk.getD (l.toNat * 4096 + n.toNat) 0 < 0) = true from c3,show (!(bestS ps' bs' tk (stS ps' n) l (layer - 1)).isEmpty) = true from c4]
          rfl
        rw [hg,if_pos rfl] at hQ'
        exact hQ'
      · unfold goodN
        rw [show (!(bestS ps' bs' tk (stS ps' n) l (layer - 1)).isEmpty) = false from c4,Bool.and_false,Bool.and_false]
      · unfold goodN
        rw [show decide (tk.getD (l.toNat * 4096 + n.toNat) 0 < 0) = false from c3,Bool.false_and,Bool.and_false]
      · unfold goodN
        rw [show sf.getD n.toNat false = false from c2,Bool.false_and]
    · have d1:¬ n < N:=of_decide_eq_false c1
      rw [show (N - n).toNat = 0 by omega] at hQ'
      exact hQ'
def L_cn10:Lay:={ slots:=[(2,.val tI),(7,.ptr 25183 0),(16,.val (.int .i8)),(17,.row 113 tPart),(115,.val tI),(116,.val tI)],boxes:=[(25183,[.val tIs,.val (.sl (.pair tI (.pair tI (.pair tI tV)))),.arr (.int .i8) 12288,.arr .bool 4096,.val tI])] }
def L_cn10_0:Lay:={ slots:=[(2,.val tI),(7,.ptr 25183 0),(16,.val (.int .i8)),(17,.row 113 tPart)],boxes:=[(25183,[.val tIs,.val (.sl (.pair tI (.pair tI (.pair tI tV)))),.arr (.int .i8) 12288,.arr .bool 4096,.val tI])] }
def X_cn10:Exit → St → Option Lay
  | .exit 10,_ => some L_cn10_0
  | _,_ => none
abbrev C_cn10:Code:=loopC (inner (loopC (bodyOf Try.f20) 8)) 10
theorem B_cn10 (losses layer:Int) (f:List (Int × Int)) (L k:Int) (ps' : List Int) (bs' : List (Int × (Int × (Int × V)))) (tk:List Int) (sf:List Bool) (mn:Int):loopBodyA (P:=P) [] (lpOf [(12,R_cn12)]) [] 183 noU (inner C_cn10) L_cn10 X_cn10 (α:=Int × Unit × Int × List (Int × Int) × Int × Int × List Int × List (Int × (Int × (Int × V))) × List Int × List Bool × Int × Unit) (fun x => x) (fun x => x) (losses,(),layer,f,L,k,ps',bs',tk,sf,mn,()) =
  Tree.cond (decide (k < L)) (.need (inv_cn12 (losses,(),layer,f,k,L,k,mn,(0:Int),ps',bs',tk,sf,mn,())) (.leaf (Sum.inl (losses,(),layer,freshN ps' bs' sf tk k layer (Int.toNat (mn - (0:Int))) (0:Int) f,L,IntKind.i64.wrap (k + (1:Int)),ps',bs',tk,sf,mn,())))) (.leaf (Sum.inr (Exit.exit (10:Nat),Lay.st L_cn10_0 noU (losses,(),layer,f,ps',bs',tk,sf,mn,())))):=by kernel_rfl
def inv_cn10:Int × Unit × Int × List (Int × Int) × Int × Int × List Int × List (Int × (Int × (Int × V))) × List Int × List Bool × Int × Unit → Prop:=fun (losses,(),layer,f,L,k,ps',bs',tk,sf,mn,()) => 0 ≤ k ∧ k ≤ L ∧ L ≤ 3 ∧ 0 ≤ mn ∧ mn ≤ 4096 ∧ tk.length = 12288 ∧ sf.length = 4096 ∧ (2 ≤ ps'.length ∧ ps'.length ≤ 4) ∧ ps'.any badP = false ∧ bs'.length ≤ 24 ∧ (∀ b ∈ bs',okB ps'.length b) ∧ 1 ≤ layer ∧ layer ≤ 64 ∧ (f.length:Int) ≤ 4096 * k
def O_cn10:Int × Unit × Int × List (Int × Int) × Int × Int × List Int × List (Int × (Int × (Int × V))) × List Int × List Bool × Int × Unit → Tree (Exit × St):=fun (losses,(),layer,f,L,k,ps',bs',tk,sf,mn,()) => (.leaf (.exit 10,L_cn10_0.st noU (losses,(),layer,(freshL ps' bs' sf tk mn layer (L - k).toNat k f),ps',bs',tk,sf,mn,())))
def R_cn10:LRun:=runOf 183 L_cn10 (fun x => x) (inv_cn10) (O_cn10)
theorem K_cn10:LoopOk P [] 183 none noU C_cn10 (R_cn10):=by
  refine loop_of hm (cx:=[]) [(12,R_cn12)] (xl:=X_cn10) (α:=Int × Unit × Int × List (Int × Int) × Int × Int × List Int × List (Int × (Int × (Int × V))) × List Int × List Bool × Int × Unit) (fun x => x) (fun (losses,(),layer,f,L,k,ps',bs',tk,sf,mn,()) => (L - k).toNat) (fun _ => rfl) (by kernel_rfl) (by kernel_rfl) ?_ (by kernel_rfl) ⟨K_cn12,trivial⟩ ?_
  · intro e S L' h
    unfold X_cn10 at h
    split at h <;> first | (cases h; done) | (cases h; kernel_rfl) | (rcases bif_some h with h | h <;> cases h <;> kernel_rfl)
  · rintro ⟨losses,⟨⟩,layer,f,L,k,ps',bs',tk,sf,mn,⟨⟩⟩ hinv Q hQ
    refine hold_of_eq (B_cn10 losses layer f L k ps' bs' tk sf mn) ?_
    obtain ⟨h0,h1,h2,h3,h3',h4,h4',⟨h5,h6⟩,h7,h9,h10,h13,h14,h15⟩:=hinv
    have hQ' : Q (.exit 10,L_cn10_0.st noU (losses,(),layer,freshL ps' bs' sf tk mn layer (L - k).toNat k f,ps',bs',tk,sf,mn,())):=hQ
    refine ⟨fun c1 => ?_,fun c1 => ?_⟩
    · have d1:k < L:=of_decide_eq_true c1
      have hm:(L - (k + 1)).toNat < (L - k).toNat:=by omega
      rw [W_id (n:=k + 1) (by omega) (by omega),Int.sub_zero]
      rw [show (L - k).toNat = (L - (k + 1)).toNat + 1 by omega,freshL] at hQ'
      have hl:=freshN_len ps' bs' sf tk k layer mn.toNat 0 f
      exact ⟨⟨by omega,by omega,h3',h4,h4',⟨h5,h6⟩,h7,h9,h10,h0,by omega,h13,h14,by omega⟩,⟨⟨by omega,by omega,h2,h3,h3',h4,h4',⟨h5,h6⟩,h7,h9,h10,h13,h14,by omega⟩,hm⟩,hQ'⟩
    · have d1:¬ k < L:=of_decide_eq_false c1
      rw [show (L - k).toNat = 0 by omega] at hQ'
      exact hQ'
def L_cn14:Lay:={ slots:=[(2,.val tI),(7,.ptr 25183 0),(16,.val (.int .i8)),(165,.val (.sl tPart)),(166,.val tI),(167,.val tI)],boxes:=[(25183,[.val tIs,.val (.sl (.pair tI (.pair tI (.pair tI tV)))),.arr (.int .i8) 12288,.arr .bool 4096,.val tI])] }
def L_cn14_0:Lay:={ slots:=[(2,.val tI),(7,.ptr 25183 0),(16,.val (.int .i8))],boxes:=[(25183,[.val tIs,.val (.sl (.pair tI (.pair tI (.pair tI tV)))),.arr (.int .i8) 12288,.arr .bool 4096,.val tI])] }
def X_cn14:Exit → St → Option Lay
  | .exit 14,_ => some L_cn14_0
  | _,_ => none
abbrev C_cn14:Code:=loopC (inner (loopC (bodyOf Try.f20) 8)) 14
theorem B_cn14 (losses layer:Int) (f:List (Int × Int)) (n i:Int) (ps' : List Int) (bs' : List (Int × (Int × (Int × V)))) (tk:List Int) (sf:List Bool) (mn:Int):loopBodyA (P:=P) [] (lpOf []) [] 183 noU (inner C_cn14) L_cn14 X_cn14 (α:=Int × Unit × Int × List (Int × Int) × Int × Int × List Int × List (Int × (Int × (Int × V))) × List Int × List Bool × Int × Unit) (fun x => x) (fun x => x) (losses,(),layer,f,n,i,ps',bs',tk,sf,mn,()) =
  Tree.cond (decide (i < n)) (.need ((0:Int) ≤ i ∧ i < (f.length:Int)) (.need ((0:Int) ≤ (List.getD f (Int.toNat i) (0,0)).fst ∧ (List.getD f (Int.toNat i) (0,0)).fst < (↑(3:Nat):Int)) (.need ((0:Int) ≤ (List.getD f (Int.toNat i) (0,0)).snd ∧ (List.getD f (Int.toNat i) (0,0)).snd < (↑(4096:Nat):Int)) (.need (Int.toNat (List.getD f (Int.toNat i) (0,0)).fst * (4096:Nat) + Int.toNat (List.getD f (Int.toNat i) (0,0)).snd < List.length tk) (.leaf (Sum.inl (losses,(),layer,f,n,IntKind.i64.wrap (i + (1:Int)),ps',bs',List.set tk (Int.toNat (List.getD f (Int.toNat i) (0,0)).fst * (4096:Nat) + Int.toNat (List.getD f (Int.toNat i) (0,0)).snd) layer,sf,mn,()))))))) (.leaf (Sum.inr (Exit.exit (14:Nat),Lay.st L_cn14_0 noU (losses,(),layer,ps',bs',tk,sf,mn,())))):=by kernel_rfl
def inv_cn14:Int × Unit × Int × List (Int × Int) × Int × Int × List Int × List (Int × (Int × (Int × V))) × List Int × List Bool × Int × Unit → Prop:=fun (losses,(),layer,f,n,i,ps',bs',tk,sf,mn,()) => n = f.length ∧ 0 ≤ i ∧ i ≤ n ∧ (f.length:Int) ≤ 100000 ∧ tk.length = 12288 ∧ (∀ x ∈ f,0 ≤ x.1 ∧ x.1 ≤ 2 ∧ 0 ≤ x.2 ∧ x.2 < 4096)
def O_cn14:Int × Unit × Int × List (Int × Int) × Int × Int × List Int × List (Int × (Int × (Int × V))) × List Int × List Bool × Int × Unit → Tree (Exit × St):=fun (losses,(),layer,f,n,i,ps',bs',tk,sf,mn,()) => (.leaf (.exit 14,L_cn14_0.st noU (losses,(),layer,ps',bs',(putL layer (f.drop i.toNat) tk),sf,mn,())))
def R_cn14:LRun:=runOf 183 L_cn14 (fun x => x) (inv_cn14) (O_cn14)
theorem K_cn14:LoopOk P [] 183 none noU C_cn14 (R_cn14):=by
  refine loop_of hm (cx:=[]) [] (xl:=X_cn14) (α:=Int × Unit × Int × List (Int × Int) × Int × Int × List Int × List (Int × (Int × (Int × V))) × List Int × List Bool × Int × Unit) (fun x => x) (fun (losses,(),layer,f,n,i,ps',bs',tk,sf,mn,()) => (n - i).toNat) (fun _ => rfl) (by kernel_rfl) (by kernel_rfl) ?_ (by kernel_rfl) trivial ?_
  · intro e S L' h
    unfold X_cn14 at h
    split at h <;> first | (cases h; done) | (cases h; kernel_rfl) | (rcases bif_some h with h | h <;> cases h <;> kernel_rfl)
  · rintro ⟨losses,⟨⟩,layer,f,n,i,ps',bs',tk,sf,mn,⟨⟩⟩ hinv Q hQ
    refine hold_of_eq (B_cn14 losses layer f n i ps' bs' tk sf mn) ?_
    obtain ⟨rfl,h0,h1,h2,h3,h4⟩:=hinv
    rw [W_id (n:=i + 1) (by omega) (by omega)]
    have hQ' : Q (.exit 14,L_cn14_0.st noU (losses,(),layer,ps',bs',putL layer (f.drop i.toNat) tk,sf,mn,())):=hQ
    refine ⟨fun c1 => ?_,fun c1 => ?_⟩
    · have d1:=of_decide_eq_true c1
      have hm:((f.length:Int) - (i + 1)).toNat < ((f.length:Int) - i).toNat:=by omega
      rw [putL_step h0 d1] at hQ'
      obtain ⟨g1,g2,g3,g4⟩:=h4 _ (getD_mem (d:=((0,0):Int × Int)) (show i.toNat < f.length by omega))
      exact ⟨⟨h0,d1⟩,⟨g1,by omega⟩,⟨g3,g4⟩,by omega,⟨⟨rfl,by omega,by omega,h2,by rw [List.length_set]; exact h3,h4⟩,hm⟩,hQ'⟩
    · have d1:=of_decide_eq_false c1
      rw [drop_end d1,putL_nil] at hQ'
      exact hQ'
def L_cn8:Lay:={ slots:=[(2,.val tI),(7,.ptr 25183 0),(16,.val (.int .i8))],boxes:=[(25183,[.val tIs,.val (.sl (.pair tI (.pair tI (.pair tI tV)))),.arr (.int .i8) 12288,.arr .bool 4096,.val tI])] }
def L_cn8_0:Lay:={ slots:=[(7,.ptr 25183 0)],boxes:=[(25183,[.val tIs,.val (.sl (.pair tI (.pair tI (.pair tI tV)))),.arr (.int .i8) 12288,.arr .bool 4096,.val tI])] }
def X_cn8:Exit → St → Option Lay
  | .exit 8,_ => some L_cn8_0
  | _,_ => none
abbrev C_cn8:Code:=loopC (bodyOf Try.f20) 8
theorem B_cn8 (losses layer:Int) (ps' : List Int) (bs' : List (Int × (Int × (Int × V)))) (tk:List Int) (sf:List Bool) (mn:Int):loopBodyA (P:=P) [] (lpOf [(10,R_cn10),(14,R_cn14)]) [] 183 noU (inner C_cn8) L_cn8 X_cn8 (α:=Int × Unit × Int × List Int × List (Int × (Int × (Int × V))) × List Int × List Bool × Int × Unit) (fun x => x) (fun x => x) (losses,(),layer,ps',bs',tk,sf,mn,()) =
  Tree.cond (decide (layer ≤ (64:Int))) (.need (inv_cn10 (losses,(),layer,[],IntKind.i64.wrap (losses + (1:Int)),(0:Int),ps',bs',tk,sf,mn,())) (.cond ((↑(List.length (freshL ps' bs' sf tk mn layer (Int.toNat (IntKind.i64.wrap (losses + (1:Int)) - (0:Int))) (0:Int) [])):Int) == (0:Int)) (.leaf (Sum.inr (Exit.exit (8:Nat),Lay.st L_cn8_0 noU ((),ps',bs',tk,sf,mn,())))) (.need (inv_cn14 (losses,(),layer,freshL ps' bs' sf tk mn layer (Int.toNat (IntKind.i64.wrap (losses + (1:Int)) - (0:Int))) (0:Int) [],(↑(List.length (freshL ps' bs' sf tk mn layer (Int.toNat (IntKind.i64.wrap (losses + (1:Int)) - (0:Int))) (0:Int) [])):Int),(0:Int),ps',bs',tk,sf,mn,())) (.leaf (Sum.inl (losses,(),IntKind.wrap IntKind.i8 (layer + (1:Int)),ps',bs',putL layer (List.drop (Int.toNat (0:Int)) (freshL ps' bs' sf tk mn layer (Int.toNat (IntKind.i64.wrap (losses + (1:Int)) - (0:Int))) (0:Int) [])) tk,sf,mn,())))))) (.leaf (Sum.inr (Exit.exit (8:Nat),Lay.st L_cn8_0 noU ((),ps',bs',tk,sf,mn,())))):=by kernel_rfl
def inv_cn8:Int × Unit × Int × List Int × List (Int × (Int × (Int × V))) × List Int × List Bool × Int × Unit → Prop:=fun (losses,(),layer,ps',bs',tk,sf,mn,()) => 0 ≤ losses ∧ losses ≤ 2 ∧ 0 ≤ mn ∧ mn ≤ 4096 ∧ tk.length = 12288 ∧ sf.length = 4096 ∧ (2 ≤ ps'.length ∧ ps'.length ≤ 4) ∧ ps'.any badP = false ∧ bs'.length ≤ 24 ∧ (∀ b ∈ bs',okB ps'.length b) ∧ 1 ≤ layer ∧ layer ≤ 65
def O_cn8:Int × Unit × Int × List Int × List (Int × (Int × (Int × V))) × List Int × List Bool × Int × Unit → Tree (Exit × St):=fun (losses,(),layer,ps',bs',tk,sf,mn,()) => (.leaf (.exit 8,L_cn8_0.st noU ((),ps',bs',(layR ps' bs' sf mn losses (65 - layer).toNat layer tk),sf,mn,())))
def R_cn8:LRun:=runOf 183 L_cn8 (fun x => x) (inv_cn8) (O_cn8)
theorem K_cn8:LoopOk P [] 183 none noU C_cn8 (R_cn8):=by
  refine loop_of hm (cx:=[]) [(10,R_cn10),(14,R_cn14)] (xl:=X_cn8) (α:=Int × Unit × Int × List Int × List (Int × (Int × (Int × V))) × List Int × List Bool × Int × Unit) (fun x => x) (fun (losses,(),layer,ps',bs',tk,sf,mn,()) => (65 - layer).toNat) (fun _ => rfl) (by kernel_rfl) (by kernel_rfl) ?_ (by kernel_rfl) ⟨K_cn10,K_cn14,trivial⟩ ?_
  · intro e S L' h
    unfold X_cn8 at h
    split at h <;> first | (cases h; done) | (cases h; kernel_rfl) | (rcases bif_some h with h | h <;> cases h <;> kernel_rfl)
  · rintro ⟨losses,⟨⟩,layer,ps',bs',tk,sf,mn,⟨⟩⟩ hinv Q hQ
    refine hold_of_eq (B_cn8 losses layer ps' bs' tk sf mn) ?_
    obtain ⟨h0,h1,h3,h3',h4,h4',⟨h5,h6⟩,h7,h9,h10,h13,h14⟩:=hinv
    have hQ' : Q (.exit 8,L_cn8_0.st noU ((),ps',bs',layR ps' bs' sf mn losses (65 - layer).toNat layer tk,sf,mn,())):=hQ
    refine ⟨fun c1 => ?_,fun c1 => ?_⟩
    · have d1:layer ≤ 64:=of_decide_eq_true c1
      have hm:(65 - (layer + 1)).toNat < (65 - layer).toNat:=by omega
      rw [W_id (n:=losses + 1) (by omega) (by omega),B_id (n:=layer + 1) (by omega) (by omega),Int.sub_zero]
      simp only [Int.toNat_zero,List.drop_zero]
      rw [show (65 - layer).toNat = (65 - (layer + 1)).toNat + 1 by omega,layR] at hQ'
      have hr:=freshL_rng (ps:=ps') (bs:=bs') (sf:=sf) (tk:=tk) (many:=mn) (layer:=layer) (losses + 1).toNat 0 [] (by omega) (by omega)
      have hl:=freshL_len ps' bs' sf tk mn layer (losses + 1).toNat 0 []
      rw [List.length_nil] at hl
      have hm2:(losses + 1).toNat * mn.toNat ≤ 3 * 4096:=Nat.mul_le_mul (by omega) (by omega)
      generalize freshL ps' bs' sf tk mn layer (losses + 1).toNat 0 [] = f at *
      refine ⟨⟨by omega,by omega,by omega,h3,h3',h4,h4',⟨h5,h6⟩,h7,h9,h10,h13,d1,by rw [List.length_nil]; omega⟩,fun c2 => ?_,fun c2 => ⟨⟨rfl,by omega,by omega,by omega,h4,fun x hx => ?_⟩,⟨⟨h0,h1,h3,h3',by rw [putL_len]; exact h4,h4',⟨h5,h6⟩,h7,h9,h10,by omega,by omega⟩,hm⟩,?_⟩⟩
      · have d2:f = []:=by
          have:(f.length:Int) = 0:=by simpa using c2
          exact List.eq_nil_of_length_eq_zero (by omega)
        rw [if_pos d2] at hQ'
        exact hQ'
      · rcases hr x hx with h | h
        · cases h
        · omega
      · have d2:¬ f = []:=by
          intro e
          rw [e] at c2
          exact absurd c2 (by decide)
        rw [if_neg d2] at hQ'
        exact hQ'
    · have d1:¬ layer ≤ 64:=of_decide_eq_false c1
      rw [show (65 - layer).toNat = 0 by omega] at hQ'
      exact hQ'
def L_count:Lay:={ slots:=[(0,.agg (.pair tIs (.sl (.pair tI (.pair tI (.pair tI tV)))))),(1,.val (.sl tPart)),(2,.val tI)] }
theorem T_count (s0_0:List Int) (s0_1:List (Int × (Int × (Int × V)))) (g:List (Int × Int)) (losses:Int):mTree (P:=P) [] (lpOf [(0,R_cn0),(2,R_cn2),(8,R_cn8)]) Try.f20 L_count true ((s0_0,s0_1),g,losses,()) =
  Tree.need (inv_cn0 (g,losses,(),(),s0_0,(s0_0.length:Int),(0:Int),s0_0,s0_1,s0_0,s0_1,List.replicate ((3:Nat) * ((4096:Nat) * (1:Nat))) (0:Int),List.replicate ((4096:Nat) * (1:Nat)) false,(1:Int),())) (.need (inv_cn2 (g,losses,(),(),manyW (List.drop (Int.toNat (0:Int)) s0_0) (1:Int),(0:Int),s0_0,s0_1,s0_0,s0_1,List.replicate ((3:Nat) * ((4096:Nat) * (1:Nat))) (0:Int),List.replicate ((4096:Nat) * (1:Nat)) false,manyW (List.drop (Int.toNat (0:Int)) s0_0) (1:Int),())) (.need (inv_cn8 (losses,(),(1:Int),s0_0,s0_1,(initR s0_0 s0_1 g (Int.toNat (manyW (List.drop (Int.toNat (0:Int)) s0_0) (1:Int) - (0:Int))) (0:Int) (List.replicate ((3:Nat) * ((4096:Nat) * (1:Nat))) (0:Int),List.replicate ((4096:Nat) * (1:Nat)) false)).fst,(initR s0_0 s0_1 g (Int.toNat (manyW (List.drop (Int.toNat (0:Int)) s0_0) (1:Int) - (0:Int))) (0:Int) (List.replicate ((3:Nat) * ((4096:Nat) * (1:Nat))) (0:Int),List.replicate ((4096:Nat) * (1:Nat)) false)).snd,manyW (List.drop (Int.toNat (0:Int)) s0_0) (1:Int),())) (.leaf { res:=SV.ptr (nat_lit 100) (0:Nat),boxes:=[],news:=[Ob.box [SV.sl tI s0_0,SV.sl (Ty.pair tI (Ty.pair tI (Ty.pair tI tV))) s0_1,SV.arr (Ty.int IntKind.i8) (12288:Nat) (layR s0_0 s0_1 (initR s0_0 s0_1 g (Int.toNat (manyW (List.drop (Int.toNat (0:Int)) s0_0) (1:Int) - (0:Int))) (0:Int) (List.replicate ((3:Nat) * ((4096:Nat) * (1:Nat))) (0:Int),List.replicate ((4096:Nat) * (1:Nat)) false)).snd (manyW (List.drop (Int.toNat (0:Int)) s0_0) (1:Int)) losses (Int.toNat ((65:Int) - (1:Int))) (1:Int) (initR s0_0 s0_1 g (Int.toNat (manyW (List.drop (Int.toNat (0:Int)) s0_0) (1:Int) - (0:Int))) (0:Int) (List.replicate ((3:Nat) * ((4096:Nat) * (1:Nat))) (0:Int),List.replicate ((4096:Nat) * (1:Nat)) false)).fst),SV.arr Ty.bool (4096:Nat) (initR s0_0 s0_1 g (Int.toNat (manyW (List.drop (Int.toNat (0:Int)) s0_0) (1:Int) - (0:Int))) (0:Int) (List.replicate ((3:Nat) * ((4096:Nat) * (1:Nat))) (0:Int),List.replicate ((4096:Nat) * (1:Nat)) false)).snd,SV.int IntKind.i64 (manyW (List.drop (Int.toNat (0:Int)) s0_0) (1:Int))]] }))):=by kernel_rfl
def c_count:MC P:=MC.of (α:=(List Int × List (Int × (Int × (Int × V)))) × List (Int × Int) × Int × Unit) 20 L_count (fun x => x) (fun x => x) (fun _ => rfl)
  (fun x => some (checkS x.1 = 0 ∧ x.2.1.length = x.1.1.length ∧ 0 ≤ x.2.2.1 ∧ x.2.2.1 ≤ 2))
  (fun x => ⟨.ptr 100 0,[],[.box [.sl tI x.1.1,.sl tBan x.1.2,.arr (.int .i8) 12288 (cntTk x.1.1 x.1.2 x.2.1 x.2.2.1),.arr .bool 4096 (cntSf x.1.1 x.1.2 x.2.1),.int .i64 (manyW x.1.1 1)]]⟩) (by kernel_rfl) (by kernel_rfl) (by kernel_rfl) (by
    rintro ⟨⟨s0_0,s0_1⟩,g,losses,⟨⟩⟩ hp
    refine m_of hm (own:=true) (by kernel_rfl) (by kernel_rfl) (by kernel_rfl) (T_count s0_0 s0_1 g losses) ⟨K_cn0,K_cn2,K_cn8,trivial⟩ ?_
    try dsimp only at hp
    try dsimp only
    obtain ⟨p1,p2,p3,p4⟩ : checkS (s0_0,s0_1) = 0 ∧ g.length = s0_0.length ∧ 0 ≤ losses ∧ losses ≤ 2:=hp
    obtain ⟨k1,k2,k3,k4,k5⟩:=checkS_ok p1
    dsimp only at k1 k2 k3 k4 k5
    have hb:=banEs_all k5
    simp only [Int.toNat_zero,List.drop_zero,Int.sub_zero]
    have hpr:=prodL_rng k3
    have h4:(8:Int) ^ s0_0.length ≤ 4096:=pow_le k2
    have hmw:=manyW_eq (n:=1) k3 (by omega) (by omega)
    rw [Int.one_mul] at hmw
    refine ⟨⟨rfl,by decide,by omega,by omega⟩,⟨by decide,by omega,by omega,by rw [List.length_replicate],by rw [List.length_replicate],rfl,rfl,⟨k1,k2⟩,k3,p2,k4,hb⟩,⟨p3,p4,by omega,by omega,?_,?_,⟨k1,k2⟩,k3,k4,hb,by decide,by decide⟩,rfl⟩
    · exact (initR_len s0_0 s0_1 g _ 0 _).1.trans (by rw [List.length_replicate])
    · exact (initR_len s0_0 s0_1 g _ 0 _).2.trans (by rw [List.length_replicate]))
end
end Go.MR
