/- Elements and houses: what is valid. -/
import Derived.Test.YtfhomgggbhjglaaGreatMuA
namespace Go.MB
open Go Go.Sx Go.Proofs
set_option linter.unusedVariables false
set_option linter.unusedSimpArgs false
noncomputable section
theorem T_checkEl(E0 E1 E2 E3:Int):jD (P:=P) [wE.gc] (zH []) Tryz.f105 (z_ 0 [.agg (.pair tI tV)] ((E0,(E1,(E2,E3))),())) =
 Tree.cond (decide (E0<0)) (.leaf (.int .i64 4)) (.cond (decide (E0>3)) (.leaf (.int .i64 4)) (.cond (!wi E1 0 68719476736) (.leaf (.int .i64 2)) (.cond (!wi E2 0 1099511627776) (.leaf (.int .i64 2)) (.cond (!wi E3 E2 2199023255552) (.leaf (.int .i64 2)) (.leaf (.int .i64 0)))))):=by kernel_rfl
def c_checkEl:PC P:=PC.of (α:=(Int×V)×Unit) 105 [.agg (.pair tI tV)] (fun x=>x) (fun x=>x) (fun _=>rfl)
 (fun _=>none)
 (fun x=>.int .i64 (elE x.1)) (by kernel_rfl) (by
  rintro⟨⟨E0,⟨E1,⟨E2,E3⟩⟩⟩,⟨⟩⟩ hp
  refine yK hm (by kernel_rfl) (by kernel_rfl) (T_checkEl E0 E1 E2 E3) trivial ?_
  try dsimp only at hp
  try dsimp only
  show Tree.holds (fun s=>s=SV.int .i64 (elE (E0,E1,E2,E3))) _
  have fin:∀n:Int,elE (E0,E1,E2,E3)=n->SV.int .i64 n=SV.int .i64 (elE (E0,E1,E2,E3)):=fun n h=>by rw[h]
  unfold elE at fin ⊢
  dsimp only at fin ⊢
  refine⟨fun c1=>fin _ ?_,fun c1=>⟨fun c2=>fin _ ?_,fun c2=>⟨fun c3=>fin _ ?_,fun c3=>⟨fun c4=>fin _ ?_,fun c4=>⟨fun c5=>fin _ ?_,fun c5=>fin _ ?_⟩⟩⟩⟩⟩
  all_goals simp only[decide_eq_true_eq,decide_eq_false_iff_not,Bool.not_eq_true',Bool.not_eq_false'] at *
  ·rw[if_pos (.inl c1)]
  ·rw[if_pos (.inr c2)]
  ·rw[if_neg (by omega),if_pos (.inl c3)]
  ·rw[if_neg (by omega),if_pos (.inr (.inl c4))]
  ·rw[if_neg (by omega),if_pos (.inr (.inr c5))]
  ·rw[if_neg (by omega),if_neg (by rw[c3,c4,c5];simp)])
theorem T_rcheckEl(E0 E1 E2 E3:Int):jD (P:=P) [wV.gc] (zH []) Tryz.f108 (z_ 0 [.agg (.pair tI tV)] ((E0,(E1,(E2,E3))),())) =
 Tree.cond (decide (E0<0)) (.leaf (.int .i64 4)) (.cond (decide (E0>3)) (.leaf (.int .i64 4)) (.cond (!wi E1 0 68719476736) (.leaf (.int .i64 2)) (.cond (!wi E2 0 1099511627776) (.leaf (.int .i64 2)) (.cond (!wi E3 E2 2199023255552) (.leaf (.int .i64 2)) (.leaf (.int .i64 0)))))):=by kernel_rfl
def c_rcheckEl:PC P:=PC.of (α:=(Int×V)×Unit) 108 [.agg (.pair tI tV)] (fun x=>x) (fun x=>x) (fun _=>rfl)
 (fun _=>none)
 (fun x=>.int .i64 (elE x.1)) (by kernel_rfl) (by
  rintro⟨⟨E0,⟨E1,⟨E2,E3⟩⟩⟩,⟨⟩⟩ hp
  refine yK hm (by kernel_rfl) (by kernel_rfl) (T_rcheckEl E0 E1 E2 E3) trivial ?_
  try dsimp only at hp
  try dsimp only
  show Tree.holds (fun s=>s=SV.int .i64 (elE (E0,E1,E2,E3))) _
  have fin:∀n:Int,elE (E0,E1,E2,E3)=n->SV.int .i64 n=SV.int .i64 (elE (E0,E1,E2,E3)):=fun n h=>by rw[h]
  unfold elE at fin ⊢
  dsimp only at fin ⊢
  refine⟨fun c1=>fin _ ?_,fun c1=>⟨fun c2=>fin _ ?_,fun c2=>⟨fun c3=>fin _ ?_,fun c3=>⟨fun c4=>fin _ ?_,fun c4=>⟨fun c5=>fin _ ?_,fun c5=>fin _ ?_⟩⟩⟩⟩⟩
  all_goals simp only[decide_eq_true_eq,decide_eq_false_iff_not,Bool.not_eq_true',Bool.not_eq_false'] at *
  ·rw[if_pos (.inl c1)]
  ·rw[if_pos (.inr c2)]
  ·rw[if_neg (by omega),if_pos (.inl c3)]
  ·rw[if_neg (by omega),if_pos (.inr (.inl c4))]
  ·rw[if_neg (by omega),if_pos (.inr (.inr c5))]
  ·rw[if_neg (by omega),if_neg (by rw[c3,c4,c5];simp)])
def hOk(h:Hs):Prop:=h.1.length<=1000/\h.2.1.length<=1000/\∀l∈h.2.1,l.length<=1000
def L_chh1:Lay:={ slots:=[(1,.ptr 2077 0),(28,.val (.sl (.pair tI tV))),(29,.val tI),(30,.val tI)],boxes:=[(2077,[.val (.sl (.pair tI tV)),.val (.sl tIs),.val tI])] }
def L_chh1_0:Lay:={ slots:=[(2,.val tI)] }
def L_chh1_1:Lay:={ slots:=[(1,.ptr 2077 0)],boxes:=[(2077,[.val (.sl (.pair tI tV)),.val (.sl tIs),.val tI])] }
def X_chh1:Exit->St->Option Lay
 |.ret,_=>some L_chh1_0
 |.exit 1,_=>some L_chh1_1
 |_,_=>none
abbrev C_chh1:Code:=jH (zJ Tryz.f56) 1
abbrev AuB4:Type:=Unit×List (Int×V)×Int×Int×List (Int×V)×List (List Int)×Int×Unit
theorem B_chh1(l:List (Int×V))(n i:Int)(els:List (Int×V))(envs:List (List Int))(need:Int):zF (P:=P) [c_checkEl.gc] (zH []) [] 77 noU (jI C_chh1) L_chh1 X_chh1 (α:=AuB4) (fun x=>x) (fun x=>x) ((),l,n,i,els,envs,need,()) =
 Tree.cond (decide (i<n)) (.need (0<=i/\i<(l.length:Int)) (.cond (elE (l.getD i.toNat (0,0,0,0)) != 0) (.leaf (Sum.inr (Exit.ret,Lay.st L_chh1_0 noU (elE (l.getD i.toNat (0,0,0,0)),())))) (.leaf (Sum.inl ((),l,n,IntKind.i64.wrap (i+1),els,envs,need,()))))) (.leaf (Sum.inr (Exit.exit 1,Lay.st L_chh1_1 noU ((),els,envs,need,())))):=by kernel_rfl
def inv_chh1:AuB4->Prop:=fun(_,l,n,i,_)=>n=l.length/\0<=i/\i<=n/\l.length<=1000
def O_chh1:AuB4->Tree (Exit×St):=fun(_,l,_,i,els,envs,need,_)=>.cond (decide (elEs (l.drop i.toNat)=0)) (.leaf (.exit 1,L_chh1_1.st noU ((),els,envs,need,()))) (.leaf (.ret,L_chh1_0.st noU ((elEs (l.drop i.toNat)),())))
def R_chh1:jS:=j_ 77 L_chh1 (fun x=>x) inv_chh1 O_chh1
theorem K_chh1:zU P [] 77 none noU C_chh1 R_chh1:=by
 refine zT hm (cx:=[c_checkEl.gc]) [] (xl:=X_chh1) (α:=AuB4) (fun x=>x) (fun(_,_,n,i,_)=>(n - i).toNat) (fun _=>rfl) (by kernel_rfl) (by kernel_rfl) ?_ (by kernel_rfl) trivial ?_
 ·intro e S L' h
  unfold X_chh1 at h
  split at h<;>cases h<;>kernel_rfl
 ·rintro⟨⟨⟩,l,n,i,els,envs,need,⟨⟩⟩ hinv Q hQ
  refine zD (B_chh1 l n i els envs need) ?_
  obtain⟨rfl,h0,h1,h2⟩:=hinv
  rw[jZ (n:=i+1) (by omega) (by omega)]
  unfold O_chh1 at hQ
  dsimp only at hQ
  refine⟨fun c1=>?_,fun c1=>?_⟩
  ·have c1:=dcT c1
   rw[elEs_step h0 c1] at hQ
   refine⟨⟨h0,c1⟩,fun c2=>?_,fun c2=>?_⟩
   ·have c2:elE (l.getD i.toNat (0,0,0,0))≠0:=by simpa using c2
    rw[if_pos c2] at hQ
    exact hQ.2 (decide_eq_false c2)
   ·have c2:elE (l.getD i.toNat (0,0,0,0))=0:=by simpa using c2
    rw[if_neg (fun h=>h c2)] at hQ
    exact⟨⟨⟨rfl,by omega,by omega,h2⟩,by show ((l.length:Int) - (i+1)).toNat<((l.length:Int) - i).toNat;omega⟩,hQ⟩
  ·rw[jB (dcF c1)] at hQ
   exact hQ.1 rfl
def L_chh35:Lay:={ slots:=[(1,.ptr 2077 0),(8,.val tI),(41,.val (.sl tIs)),(42,.val tI),(43,.val tI),(50,.val tIs),(51,.val tI),(52,.val tI)],boxes:=[(2077,[.val (.sl (.pair tI tV)),.val (.sl tIs),.val tI])] }
def L_chh35_0:Lay:={ slots:=[(2,.val tI)] }
def L_chh35_1:Lay:={ slots:=[(1,.ptr 2077 0),(41,.val (.sl tIs)),(42,.val tI),(43,.val tI)],boxes:=[(2077,[.val (.sl (.pair tI tV)),.val (.sl tIs),.val tI])] }
def X_chh35:Exit->St->Option Lay
 |.ret,_=>some L_chh35_0
 |.exit 5,_=>some L_chh35_1
 |_,_=>none
abbrev C_chh35:Code:=jH (jI (jH (zJ Tryz.f56) 3)) 5
abbrev AuB2:Type:=Unit×Int×List (List Int)×Int×Int×List Int×Int×Int×List (Int×V)×List (List Int)×Int×Unit
theorem B_chh35(last:Int)(m:List (List Int))(n2 k:Int)(q:List Int)(n3 j:Int)(els:List (Int×V))(envs:List (List Int))(need:Int):zF (P:=P) [] (zH []) [] 77 noU (jI C_chh35) L_chh35 X_chh35 (α:=AuB2) (fun x=>x) (fun x=>x) ((),last,m,n2,k,q,n3,j,els,envs,need,()) =
 Tree.cond (decide (j<n3)) (.need (0<=j/\j<(q.length:Int)) (.cond (decide (q.getD j.toNat 0<=last)) (.leaf (Sum.inr (Exit.ret,Lay.st L_chh35_0 noU ((11:Int),())))) (.cond (decide (q.getD j.toNat 0>=(els.length:Int))) (.leaf (Sum.inr (Exit.ret,Lay.st L_chh35_0 noU ((11:Int),())))) (.leaf (Sum.inl ((),q.getD j.toNat 0,m,n2,k,q,n3,IntKind.i64.wrap (j+1),els,envs,need,())))))) (.leaf (Sum.inr (Exit.exit 5,Lay.st L_chh35_1 noU ((),m,n2,k,els,envs,need,())))):=by kernel_rfl
def inv_chh35:AuB2->Prop:=fun(_,_,_,_,_,q,n3,j,_)=>n3=q.length/\0<=j/\j<=n3/\q.length<=1000
def O_chh35:AuB2->Tree (Exit×St):=fun(_,last,m,n2,k,q,_,j,els,envs,need,_)=>.cond (zAh els.length last (q.drop j.toNat)) (.leaf (.ret,L_chh35_0.st noU (((11:Int)),()))) (.leaf (.exit 5,L_chh35_1.st noU ((),m,n2,k,els,envs,need,())))
def R_chh35:jS:=j_ 77 L_chh35 (fun x=>x) inv_chh35 O_chh35
theorem K_chh35:zU P [] 77 none noU C_chh35 R_chh35:=by
 refine zT hm (cx:=[]) [] (xl:=X_chh35) (α:=AuB2) (fun x=>x) (fun(_,_,_,_,_,_,n3,j,_)=>(n3 - j).toNat) (fun _=>rfl) (by kernel_rfl) (by kernel_rfl) ?_ (by kernel_rfl) trivial ?_
 ·intro e S L' h
  unfold X_chh35 at h
  split at h<;>cases h<;>kernel_rfl
 ·rintro⟨⟨⟩,last,m,n2,k,q,n3,j,els,envs,need,⟨⟩⟩ hinv Q hQ
  refine zD (B_chh35 last m n2 k q n3 j els envs need) ?_
  obtain⟨rfl,h0,h1,h2⟩:=hinv
  rw[jZ (n:=j+1) (by omega) (by omega)]
  unfold O_chh35 at hQ
  dsimp only at hQ
  refine⟨fun c1=>?_,fun c1=>?_⟩
  ·have c1:=dcT c1
   rw[envB_step h0 c1] at hQ
   refine⟨⟨h0,c1⟩,fun c2=>?_,fun c2=>⟨fun c3=>?_,fun c3=>?_⟩⟩
   ·exact hQ.1 (by rw[c2,Bool.true_or])
   ·have c3:decide (q.getD j.toNat 0>=(els.length:Int))=true:=c3
    exact hQ.1 (by rw[c3,Bool.true_or,Bool.or_true])
   ·have c3:decide (q.getD j.toNat 0>=(els.length:Int))=false:=c3
    rw[c2,c3,Bool.false_or,Bool.false_or] at hQ
    exact⟨⟨⟨rfl,by omega,by omega,h2⟩,by show ((q.length:Int) - (j+1)).toNat<((q.length:Int) - j).toNat;omega⟩,hQ⟩
  ·rw[jB (dcF c1)] at hQ
   exact hQ.2 rfl
def L_chh3:Lay:={ slots:=[(1,.ptr 2077 0),(41,.val (.sl tIs)),(42,.val tI),(43,.val tI)],boxes:=[(2077,[.val (.sl (.pair tI tV)),.val (.sl tIs),.val tI])] }
def L_chh3_0:Lay:={ slots:=[(2,.val tI)] }
def L_chh3_1:Lay:={ slots:=[(1,.ptr 2077 0)],boxes:=[(2077,[.val (.sl (.pair tI tV)),.val (.sl tIs),.val tI])] }
def X_chh3:Exit->St->Option Lay
 |.ret,_=>some L_chh3_0
 |.exit 3,_=>some L_chh3_1
 |_,_=>none
abbrev C_chh3:Code:=jH (zJ Tryz.f56) 3
abbrev AuB3:Type:=Unit×List (List Int)×Int×Int×List (Int×V)×List (List Int)×Int×Unit
theorem B_chh3(m:List (List Int))(n2 k:Int)(els:List (Int×V))(envs:List (List Int))(need:Int):zF (P:=P) [] (zH [(5,R_chh35)]) [] 77 noU (jI C_chh3) L_chh3 X_chh3 (α:=AuB3) (fun x=>x) (fun x=>x) ((),m,n2,k,els,envs,need,()) =
 Tree.cond (decide (k<n2)) (.need (0<=k/\k<(m.length:Int)) (.cond ((↑(List.length (m.getD k.toNat [])):Int)==0) (.leaf (Sum.inr (Exit.ret,Lay.st L_chh3_0 noU ((6:Int),())))) (.need (inv_chh35 ((),(-1:Int),m,n2,k,m.getD k.toNat [],(↑(List.length (m.getD k.toNat [])):Int),0,els,envs,need,())) (.cond (zAh (els.length:Int) (-1:Int) (List.drop (Int.toNat 0) (m.getD k.toNat []))) (.leaf (Sum.inr (Exit.ret,Lay.st L_chh3_0 noU ((11:Int),())))) (.leaf (Sum.inl ((),m,n2,IntKind.i64.wrap (k+1),els,envs,need,()))))))) (.leaf (Sum.inr (Exit.exit 3,Lay.st L_chh3_1 noU ((),els,envs,need,())))):=by kernel_rfl
def inv_chh3:AuB3->Prop:=fun(_,m,n2,k,_)=>n2=m.length/\0<=k/\k<=n2/\m.length<=1000/\∀q∈m,q.length<=1000
def O_chh3:AuB3->Tree (Exit×St):=fun(_,m,_,k,els,envs,need,_)=>.cond (decide (gA els.length (m.drop k.toNat)=0)) (.leaf (.exit 3,L_chh3_1.st noU ((),els,envs,need,()))) (.leaf (.ret,L_chh3_0.st noU ((gA els.length (m.drop k.toNat)),())))
def R_chh3:jS:=j_ 77 L_chh3 (fun x=>x) inv_chh3 O_chh3
theorem K_chh3:zU P [] 77 none noU C_chh3 R_chh3:=by
 refine zT hm (cx:=[]) [(5,R_chh35)] (xl:=X_chh3) (α:=AuB3) (fun x=>x) (fun(_,_,n2,k,_)=>(n2 - k).toNat) (fun _=>rfl) (by kernel_rfl) (by kernel_rfl) ?_ (by kernel_rfl) ⟨K_chh35,trivial⟩ ?_
 ·intro e S L' h
  unfold X_chh3 at h
  split at h<;>cases h<;>kernel_rfl
 ·rintro⟨⟨⟩,m,n2,k,els,envs,need,⟨⟩⟩ hinv Q hQ
  refine zD (B_chh3 m n2 k els envs need) ?_
  obtain⟨rfl,h0,h1,h2,h3⟩:=hinv
  rw[jZ (n:=k+1) (by omega) (by omega)]
  unfold O_chh3 at hQ
  dsimp only at hQ
  refine⟨fun c1=>?_,fun c1=>?_⟩
  ·have c1:=dcT c1
   have hm:=h3 _ (jT (d:=([]:List Int)) (show k.toNat<m.length by omega))
   rw[envEs_step h0 c1] at hQ
   generalize m.getD k.toNat []=q at *
   refine⟨⟨h0,c1⟩,fun c2=>?_,fun c2=>⟨⟨rfl,by decide,by omega,hm⟩,fun c3=>?_,fun c3=>?_⟩⟩
   ·have z:(q.length:Int)=0:=by simpa using c2
    have e:kX els.length q=6:=by unfold kX;rw[if_pos (by omega)]
    rw[e,if_pos (by decide)] at hQ
    exact hQ.2 (by decide)
   all_goals
    have c2:q.length≠0:=by
     have:(q.length:Int)≠0:=by simpa using c2
     omega
   ·have c3:zAh els.length (-1) q=true:=c3
    have e:kX els.length q=11:=by unfold kX;rw[if_neg c2,if_pos c3]
    rw[e,if_pos (by decide)] at hQ
    exact hQ.2 (by decide)
   ·have c3:zAh els.length (-1) q=false:=c3
    have e:kX els.length q=0:=by unfold kX;rw[if_neg c2,if_neg (by rw[c3];simp)]
    rw[e,if_neg (fun h=>h rfl)] at hQ
    exact⟨⟨⟨rfl,by omega,by omega,h2,h3⟩,by show ((m.length:Int) - (k+1)).toNat<((m.length:Int) - k).toNat;omega⟩,hQ⟩
  ·rw[jB (dcF c1)] at hQ
   exact hQ.1 rfl
theorem T_House(qK:List (Int×V))(wG:List (List Int))(x_:Int):jD (P:=P) [] (zH [(1,R_chh1),(3,R_chh3)]) Tryz.f56 (z_ 0 [.agg (.pair (.sl (.pair tI tV)) (.pair (.sl tIs) tI))] ((qK,(wG,x_)),())) =
 Tree.cond ((qK.length:Int)==0) (.leaf (.int .i64 6)) (.cond (decide ((qK.length:Int)>10)) (.leaf (.int .i64 8)) (.cond (decide ((wG.length:Int)>8)) (.leaf (.int .i64 8)) (.need (inv_chh1 ((),qK,(qK.length:Int),0,qK,wG,x_,())) (.cond (decide (elEs (List.drop (Int.toNat 0) qK)=0)) (.need (inv_chh3 ((),wG,(wG.length:Int),0,qK,wG,x_,())) (.cond (decide (gA (qK.length:Int) (List.drop (Int.toNat 0) wG)=0)) (.cond (decide (x_<1)) (.leaf (.int .i64 2)) (.cond (decide (x_>3)) (.leaf (.int .i64 2)) (.leaf (.int .i64 0)))) (.leaf (.int .i64 (gA (qK.length:Int) (List.drop (Int.toNat 0) wG)))))) (.leaf (.int .i64 (elEs (List.drop (Int.toNat 0) qK)))))))):=by kernel_rfl
def c_House:PC P:=PC.of (α:=(List (Int×V)×(List (List Int)×Int))×Unit) 56 [.agg (.pair (.sl (.pair tI tV)) (.pair (.sl tIs) tI))] (fun x=>x) (fun x=>x) (fun _=>rfl)
 (fun x=>some (hOk x.1))
 (fun x=>.int .i64 (zB x.1)) (by kernel_rfl) (by
  rintro⟨⟨qK,⟨wG,x_⟩⟩,⟨⟩⟩ hp
  refine yK hm (by kernel_rfl) (by kernel_rfl) (T_House qK wG x_) ⟨K_chh1,K_chh3,trivial⟩ ?_
  try dsimp only at hp
  try dsimp only
  obtain⟨p1,p2,p3⟩:hOk (qK,(wG,x_)):=hp
  show Tree.holds (fun s=>s=SV.int .i64 (zB (qK,(wG,x_)))) _
  have fin:∀n:Int,zB (qK,(wG,x_))=n->SV.int .i64 n=SV.int .i64 (zB (qK,(wG,x_))):=fun n h=>by rw[h]
  unfold zB at fin ⊢
  dsimp only at fin p1 p2 p3 ⊢
  refine⟨fun c1=>fin _ ?_,fun c1=>⟨fun c2=>fin _ ?_,fun c2=>⟨fun c3=>fin _ ?_,fun c3=>⟨⟨rfl,by decide,by omega,p1⟩,fun c4=>⟨⟨rfl,by decide,by omega,p2,p3⟩,fun c5=>⟨fun c6=>fin _ ?_,fun c6=>⟨fun c7=>fin _ ?_,fun c7=>fin _ ?_⟩⟩,fun c5=>fin _ ?_⟩,fun c4=>fin _ ?_⟩⟩⟩⟩
  all_goals simp only[beq_iff_eq,beq_eq_false_iff_ne,decide_eq_true_eq,decide_eq_false_iff_not,Int.toNat_zero,List.drop_zero,ne_eq] at *
  ·rw[if_pos (by omega)]
  ·rw[if_neg (by omega),if_pos (by omega)]
  ·rw[if_neg (by omega),if_pos (by omega)]
  ·rw[if_neg (by omega),if_neg (by omega),if_neg (fun h=>h c4),if_neg (fun h=>h c5),if_pos (.inl c6)]
  ·rw[if_neg (by omega),if_neg (by omega),if_neg (fun h=>h c4),if_neg (fun h=>h c5),if_pos (.inr c7)]
  ·rw[if_neg (by omega),if_neg (by omega),if_neg (fun h=>h c4),if_neg (fun h=>h c5),if_neg (by omega)]
  ·rw[if_neg (by omega),if_neg (by omega),if_neg (fun h=>h c4),if_pos c5]
  ·rw[if_neg (by omega),if_neg (by omega),if_pos c4])
def L_rchh0:Lay:={ slots:=[(1,.ptr 2098 0),(3,.val tI)],boxes:=[(2098,[.val (.sl (.pair tI tV)),.val (.sl tIs),.val tI])] }
def L_rchh0_0:Lay:={ slots:=[(2,.val tI)] }
def L_rchh0_1:Lay:={ slots:=[(1,.ptr 2098 0)],boxes:=[(2098,[.val (.sl (.pair tI tV)),.val (.sl tIs),.val tI])] }
def X_rchh0:Exit->St->Option Lay
 |.ret,_=>some L_rchh0_0
 |.exit 0,_=>some L_rchh0_1
 |_,_=>none
abbrev C_rchh0:Code:=jH (zJ Tryz.f63) 0
abbrev AuB1:Type:=Unit×Int×List (Int×V)×List (List Int)×Int×Unit
theorem B_rchh0(i:Int)(els:List (Int×V))(envs:List (List Int))(need:Int):zF (P:=P) [c_rcheckEl.gc] (zH []) [] 98 noU (jI C_rchh0) L_rchh0 X_rchh0 (α:=AuB1) (fun x=>x) (fun x=>x) ((),i,els,envs,need,()) =
 Tree.cond (decide (i<(els.length:Int))) (.need (0<=i/\i<(els.length:Int)) (.cond (elE (els.getD i.toNat (0,0,0,0)) != 0) (.leaf (Sum.inr (Exit.ret,Lay.st L_rchh0_0 noU (elE (els.getD i.toNat (0,0,0,0)),())))) (.leaf (Sum.inl ((),IntKind.i64.wrap (i+1),els,envs,need,()))))) (.leaf (Sum.inr (Exit.exit 0,Lay.st L_rchh0_1 noU ((),els,envs,need,())))):=by kernel_rfl
def inv_rchh0:AuB1->Prop:=fun(_,i,els,_)=>0<=i/\i<=els.length/\els.length<=1000
def O_rchh0:AuB1->Tree (Exit×St):=fun(_,i,els,envs,need,_)=>.cond (decide (elEs (els.drop i.toNat)=0)) (.leaf (.exit 0,L_rchh0_1.st noU ((),els,envs,need,()))) (.leaf (.ret,L_rchh0_0.st noU ((elEs (els.drop i.toNat)),())))
def R_rchh0:jS:=j_ 98 L_rchh0 (fun x=>x) inv_rchh0 O_rchh0
theorem K_rchh0:zU P [] 98 none noU C_rchh0 R_rchh0:=by
 refine zT hm (cx:=[c_rcheckEl.gc]) [] (xl:=X_rchh0) (α:=AuB1) (fun x=>x) (fun(_,i,els,_)=>(els.length - i).toNat) (fun _=>rfl) (by kernel_rfl) (by kernel_rfl) ?_ (by kernel_rfl) trivial ?_
 ·intro e S L' h
  unfold X_rchh0 at h
  split at h<;>cases h<;>kernel_rfl
 ·rintro⟨⟨⟩,i,els,envs,need,⟨⟩⟩ hinv Q hQ
  refine zD (B_rchh0 i els envs need) ?_
  obtain⟨h0,h1,h2⟩:=hinv
  rw[jZ (n:=i+1) (by omega) (by omega)]
  unfold O_rchh0 at hQ
  dsimp only at hQ
  refine⟨fun c1=>?_,fun c1=>?_⟩
  ·have c1:=dcT c1
   rw[elEs_step h0 c1] at hQ
   refine⟨⟨h0,c1⟩,fun c2=>?_,fun c2=>?_⟩
   ·have c2:elE (els.getD i.toNat (0,0,0,0))≠0:=by simpa using c2
    rw[if_pos c2] at hQ
    exact hQ.2 (decide_eq_false c2)
   ·have c2:elE (els.getD i.toNat (0,0,0,0))=0:=by simpa using c2
    rw[if_neg (fun h=>h c2)] at hQ
    exact⟨⟨⟨by omega,by omega,h2⟩,by show ((els.length:Int) - (i+1)).toNat<((els.length:Int) - i).toNat;omega⟩,hQ⟩
  ·rw[jB (dcF c1)] at hQ
   exact hQ.1 rfl
def L_rchh24:Lay:={ slots:=[(1,.ptr 2098 0),(5,.val tI),(6,.val tIs),(7,.val tI)],boxes:=[(2098,[.val (.sl (.pair tI tV)),.val (.sl tIs),.val tI])] }
def zAa:Lay:={ slots:=[(2,.val tI)] }
def L_rchh24_1:Lay:={ slots:=[(1,.ptr 2098 0),(5,.val tI)],boxes:=[(2098,[.val (.sl (.pair tI tV)),.val (.sl tIs),.val tI])] }
def X_rchh24:Exit->St->Option Lay
 |.ret,_=>some zAa
 |.exit 4,_=>some L_rchh24_1
 |_,_=>none
abbrev C_rchh24:Code:=jH (jI (jH (zJ Tryz.f63) 2)) 4
abbrev AuB5:Type:=Unit×Int×List Int×Int×List (Int×V)×List (List Int)×Int×Unit
theorem B_rchh24(k:Int)(q:List Int)(j:Int)(els:List (Int×V))(envs:List (List Int))(need:Int):zF (P:=P) [] (zH []) [] 98 noU (jI C_rchh24) L_rchh24 X_rchh24 (α:=AuB5) (fun x=>x) (fun x=>x) ((),k,q,j,els,envs,need,()) =
 Tree.cond (decide (j<(q.length:Int))) (.need (0<=j/\j<(q.length:Int)) (.cond (decide (q.getD j.toNat (0:Int)<0)) (.leaf (Sum.inr (Exit.ret,Lay.st zAa noU ((11:Int),())))) (.need (0<=j/\j<(q.length:Int)) (.cond (decide (q.getD j.toNat 0>=(els.length:Int))) (.leaf (Sum.inr (Exit.ret,Lay.st zAa noU ((11:Int),())))) (.cond (decide (j>0)) (.need (0<=j/\j<(q.length:Int)) (.need (0<=IntKind.i64.wrap (j - 1)/\IntKind.i64.wrap (j - 1)<(q.length:Int)) (.cond (decide (q.getD j.toNat 0<=List.getD q (Int.toNat (IntKind.i64.wrap (j - 1))) 0)) (.leaf (Sum.inr (Exit.ret,Lay.st zAa noU ((11:Int),())))) (.leaf (Sum.inl ((),k,q,IntKind.i64.wrap (j+1),els,envs,need,())))))) (.leaf (Sum.inl ((),k,q,IntKind.i64.wrap (j+1),els,envs,need,())))))))) (.leaf (Sum.inr (Exit.exit 4,Lay.st L_rchh24_1 noU ((),k,els,envs,need,())))):=by kernel_rfl
def inv_rchh24:AuB5->Prop:=fun(_,_,q,j,_)=>0<=j/\j<=q.length/\q.length<=1000/\(0<j->0<=q.getD (j - 1).toNat 0)
def O_rchh24:AuB5->Tree (Exit×St):=fun(_,k,q,j,els,envs,need,_)=>.cond (zAh els.length (if j=0 then -1 else q.getD (j - 1).toNat 0) (q.drop j.toNat)) (.leaf (.ret,zAa.st noU (((11:Int)),()))) (.leaf (.exit 4,L_rchh24_1.st noU ((),k,els,envs,need,())))
def R_rchh24:jS:=j_ 98 L_rchh24 (fun x=>x) inv_rchh24 O_rchh24
theorem K_rchh24:zU P [] 98 none noU C_rchh24 R_rchh24:=by
 refine zT hm (cx:=[]) [] (xl:=X_rchh24) (α:=AuB5) (fun x=>x) (fun(_,_,q,j,_)=>(q.length - j).toNat) (fun _=>rfl) (by kernel_rfl) (by kernel_rfl) ?_ (by kernel_rfl) trivial ?_
 ·intro e S L' h
  unfold X_rchh24 at h
  split at h<;>cases h<;>kernel_rfl
 ·rintro⟨⟨⟩,k,q,j,els,envs,need,⟨⟩⟩ hinv Q hQ
  refine zD (B_rchh24 k q j els envs need) ?_
  obtain⟨h0,h1,h2,h3⟩:=hinv
  rw[jZ (n:=j+1) (by omega) (by omega),jZ (n:=j - 1) (by omega) (by omega)]
  unfold O_rchh24 at hQ
  dsimp only at hQ
  refine⟨fun c1=>?_,fun c1=>?_⟩
  ·have c1:=dcT c1
   have mm:((q.length:Int) - (j+1)).toNat<((q.length:Int) - j).toNat:=by omega
   have ej:(j+1 - 1:Int)=j:=by omega
   rw[envB_step h0 c1] at hQ
   refine⟨⟨h0,c1⟩,fun c2=>?_,fun c2=>⟨⟨h0,c1⟩,fun c3=>?_,fun c3=>⟨fun c4=>⟨⟨h0,c1⟩,⟨by have:=dcT c4;omega,by omega⟩,fun c5=>?_,fun c5=>?_⟩,fun c4=>?_⟩⟩⟩
   ·have d2:=dcT c2
    refine hQ.1 ?_
    rw[decide_eq_true (show q.getD j.toNat 0<=if j=0 then -1 else q.getD (j - 1).toNat 0 by
     by_cases z:j=0
     ·rw[if_pos z];omega
     ·rw[if_neg z]
      have:=h3 (by omega)
      omega),Bool.true_or]
   ·have c3:decide (q.getD j.toNat 0>=(els.length:Int))=true:=c3
    exact hQ.1 (by rw[c3,Bool.true_or,Bool.or_true])
   ·have d4:=dcT c4
    have c5:decide (q.getD j.toNat 0<=q.getD (j - 1).toNat 0)=true:=c5
    refine hQ.1 ?_
    rw[if_neg (by omega),c5,Bool.true_or]
   ·have d2:=dcF c2
    have d4:=dcT c4
    have c3:decide (q.getD j.toNat 0>=(els.length:Int))=false:=c3
    have c5:decide (q.getD j.toNat 0<=q.getD (j - 1).toNat 0)=false:=c5
    rw[if_neg (show ¬ j=0 by omega),c5,c3,Bool.false_or,Bool.false_or] at hQ
    refine⟨⟨⟨by omega,by omega,h2,fun _=>by rw[ej];omega⟩,mm⟩,?_⟩
    show Tree.holds Q (O_rchh24 ((),k,q,j+1,els,envs,need,()))
    unfold O_rchh24
    dsimp only
    rw[if_neg (show ¬ j+1=0 by omega),ej]
    exact hQ
   ·have d2:=dcF c2
    have d4:=dcF c4
    have c3:decide (q.getD j.toNat 0>=(els.length:Int))=false:=c3
    rw[if_pos (show j=0 by omega),decide_eq_false (show ¬ q.getD j.toNat 0 <= -1 by omega),c3,Bool.false_or,Bool.false_or] at hQ
    refine⟨⟨⟨by omega,by omega,h2,fun _=>by rw[ej];omega⟩,mm⟩,?_⟩
    show Tree.holds Q (O_rchh24 ((),k,q,j+1,els,envs,need,()))
    unfold O_rchh24
    dsimp only
    rw[if_neg (show ¬ j+1=0 by omega),ej]
    exact hQ
  ·rw[jB (dcF c1)] at hQ
   exact hQ.2 rfl
def L_rchh2:Lay:={ slots:=[(1,.ptr 2098 0),(5,.val tI)],boxes:=[(2098,[.val (.sl (.pair tI tV)),.val (.sl tIs),.val tI])] }
def L_rchh2_0:Lay:={ slots:=[(2,.val tI)] }
def L_rchh2_1:Lay:={ slots:=[(1,.ptr 2098 0)],boxes:=[(2098,[.val (.sl (.pair tI tV)),.val (.sl tIs),.val tI])] }
def X_rchh2:Exit->St->Option Lay
 |.ret,_=>some L_rchh2_0
 |.exit 2,_=>some L_rchh2_1
 |_,_=>none
abbrev C_rchh2:Code:=jH (zJ Tryz.f63) 2
theorem B_rchh2(k:Int)(els:List (Int×V))(envs:List (List Int))(need:Int):zF (P:=P) [] (zH [(4,R_rchh24)]) [] 98 noU (jI C_rchh2) L_rchh2 X_rchh2 (α:=AuB1) (fun x=>x) (fun x=>x) ((),k,els,envs,need,()) =
 Tree.cond (decide (k<(envs.length:Int))) (.need (0<=k/\k<(envs.length:Int)) (.cond ((↑(List.length (envs.getD k.toNat [])):Int)==0) (.leaf (Sum.inr (Exit.ret,Lay.st L_rchh2_0 noU ((6:Int),())))) (.need (inv_rchh24 ((),k,envs.getD k.toNat [],0,els,envs,need,())) (.cond (zAh (els.length:Int) (if (0:Int)=0 then (-1:Int) else List.getD (envs.getD k.toNat []) (Int.toNat ((0:Int) - 1)) 0) (List.drop (Int.toNat 0) (envs.getD k.toNat []))) (.leaf (Sum.inr (Exit.ret,Lay.st L_rchh2_0 noU ((11:Int),())))) (.leaf (Sum.inl ((),IntKind.i64.wrap (k+1),els,envs,need,()))))))) (.leaf (Sum.inr (Exit.exit 2,Lay.st L_rchh2_1 noU ((),els,envs,need,())))):=by kernel_rfl
def inv_rchh2:AuB1->Prop:=fun(_,k,_,envs,_)=>0<=k/\k<=envs.length/\envs.length<=1000/\∀q∈envs,q.length<=1000
def O_rchh2:AuB1->Tree (Exit×St):=fun(_,k,els,envs,need,_)=>.cond (decide (gA els.length (envs.drop k.toNat)=0)) (.leaf (.exit 2,L_rchh2_1.st noU ((),els,envs,need,()))) (.leaf (.ret,L_rchh2_0.st noU ((gA els.length (envs.drop k.toNat)),())))
def R_rchh2:jS:=j_ 98 L_rchh2 (fun x=>x) inv_rchh2 O_rchh2
theorem K_rchh2:zU P [] 98 none noU C_rchh2 R_rchh2:=by
 refine zT hm (cx:=[]) [(4,R_rchh24)] (xl:=X_rchh2) (α:=AuB1) (fun x=>x) (fun(_,k,_,envs,_)=>(envs.length - k).toNat) (fun _=>rfl) (by kernel_rfl) (by kernel_rfl) ?_ (by kernel_rfl) ⟨K_rchh24,trivial⟩ ?_
 ·intro e S L' h
  unfold X_rchh2 at h
  split at h<;>cases h<;>kernel_rfl
 ·rintro⟨⟨⟩,k,els,envs,need,⟨⟩⟩ hinv Q hQ
  refine zD (B_rchh2 k els envs need) ?_
  obtain⟨h0,h1,h2,h3⟩:=hinv
  rw[jZ (n:=k+1) (by omega) (by omega)]
  unfold O_rchh2 at hQ
  dsimp only at hQ
  refine⟨fun c1=>?_,fun c1=>?_⟩
  ·have c1:=dcT c1
   have hm:=h3 _ (jT (d:=([]:List Int)) (show k.toNat<envs.length by omega))
   rw[envEs_step h0 c1] at hQ
   generalize envs.getD k.toNat []=q at *
   refine⟨⟨h0,c1⟩,fun c2=>?_,fun c2=>⟨⟨by decide,by omega,hm,fun h=>absurd h (by decide)⟩,fun c3=>?_,fun c3=>?_⟩⟩
   ·have z:(q.length:Int)=0:=by simpa using c2
    have e:kX els.length q=6:=by unfold kX;rw[if_pos (by omega)]
    rw[e,if_pos (by decide)] at hQ
    exact hQ.2 (by decide)
   all_goals
    have c2:q.length≠0:=by
     have:(q.length:Int)≠0:=by simpa using c2
     omega
   ·have c3:zAh els.length (-1) q=true:=c3
    have e:kX els.length q=11:=by unfold kX;rw[if_neg c2,if_pos c3]
    rw[e,if_pos (by decide)] at hQ
    exact hQ.2 (by decide)
   ·have c3:zAh els.length (-1) q=false:=c3
    have e:kX els.length q=0:=by unfold kX;rw[if_neg c2,if_neg (by rw[c3];simp)]
    rw[e,if_neg (fun h=>h rfl)] at hQ
    exact⟨⟨⟨by omega,by omega,h2,h3⟩,by show ((envs.length:Int) - (k+1)).toNat<((envs.length:Int) - k).toNat;omega⟩,hQ⟩
  ·rw[jB (dcF c1)] at hQ
   exact hQ.1 rfl
theorem T_rHouse(qK:List (Int×V))(wG:List (List Int))(x_:Int):jD (P:=P) [] (zH [(0,R_rchh0),(2,R_rchh2)]) Tryz.f63 (z_ 0 [.agg (.pair (.sl (.pair tI tV)) (.pair (.sl tIs) tI))] ((qK,(wG,x_)),())) =
 Tree.cond ((qK.length:Int)==0) (.leaf (.int .i64 6)) (.cond (decide ((qK.length:Int)>10)) (.leaf (.int .i64 8)) (.cond (decide ((wG.length:Int)>8)) (.leaf (.int .i64 8)) (.need (inv_rchh0 ((),0,qK,wG,x_,())) (.cond (decide (elEs (List.drop (Int.toNat 0) qK)=0)) (.need (inv_rchh2 ((),0,qK,wG,x_,())) (.cond (decide (gA (qK.length:Int) (List.drop (Int.toNat 0) wG)=0)) (.cond (decide (x_<1)) (.leaf (.int .i64 2)) (.cond (decide (x_>3)) (.leaf (.int .i64 2)) (.leaf (.int .i64 0)))) (.leaf (.int .i64 (gA (qK.length:Int) (List.drop (Int.toNat 0) wG)))))) (.leaf (.int .i64 (elEs (List.drop (Int.toNat 0) qK)))))))):=by kernel_rfl
def c_rHouse:PC P:=PC.of (α:=(List (Int×V)×(List (List Int)×Int))×Unit) 63 [.agg (.pair (.sl (.pair tI tV)) (.pair (.sl tIs) tI))] (fun x=>x) (fun x=>x) (fun _=>rfl)
 (fun x=>some (hOk x.1))
 (fun x=>.int .i64 (zB x.1)) (by kernel_rfl) (by
  rintro⟨⟨qK,⟨wG,x_⟩⟩,⟨⟩⟩ hp
  refine yK hm (by kernel_rfl) (by kernel_rfl) (T_rHouse qK wG x_) ⟨K_rchh0,K_rchh2,trivial⟩ ?_
  try dsimp only at hp
  try dsimp only
  obtain⟨p1,p2,p3⟩:hOk (qK,(wG,x_)):=hp
  show Tree.holds (fun s=>s=SV.int .i64 (zB (qK,(wG,x_)))) _
  have fin:∀n:Int,zB (qK,(wG,x_))=n->SV.int .i64 n=SV.int .i64 (zB (qK,(wG,x_))):=fun n h=>by rw[h]
  unfold zB at fin ⊢
  dsimp only at fin p1 p2 p3 ⊢
  refine⟨fun c1=>fin _ ?_,fun c1=>⟨fun c2=>fin _ ?_,fun c2=>⟨fun c3=>fin _ ?_,fun c3=>⟨⟨by decide,by omega,p1⟩,fun c4=>⟨⟨by decide,by omega,p2,p3⟩,fun c5=>⟨fun c6=>fin _ ?_,fun c6=>⟨fun c7=>fin _ ?_,fun c7=>fin _ ?_⟩⟩,fun c5=>fin _ ?_⟩,fun c4=>fin _ ?_⟩⟩⟩⟩
  all_goals simp only[beq_iff_eq,beq_eq_false_iff_ne,decide_eq_true_eq,decide_eq_false_iff_not,Int.toNat_zero,List.drop_zero,ne_eq] at *
  ·rw[if_pos (by omega)]
  ·rw[if_neg (by omega),if_pos (by omega)]
  ·rw[if_neg (by omega),if_pos (by omega)]
  ·rw[if_neg (by omega),if_neg (by omega),if_neg (fun h=>h c4),if_neg (fun h=>h c5),if_pos (.inl c6)]
  ·rw[if_neg (by omega),if_neg (by omega),if_neg (fun h=>h c4),if_neg (fun h=>h c5),if_pos (.inr c7)]
  ·rw[if_neg (by omega),if_neg (by omega),if_neg (fun h=>h c4),if_neg (fun h=>h c5),if_neg (by omega)]
  ·rw[if_neg (by omega),if_neg (by omega),if_neg (fun h=>h c4),if_pos c5]
  ·rw[if_neg (by omega),if_neg (by omega),if_pos c4])
end
end Go.MB
