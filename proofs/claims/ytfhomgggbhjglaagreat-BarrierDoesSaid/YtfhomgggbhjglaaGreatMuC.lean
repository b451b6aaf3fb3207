/- What stands, and the proof of the rule: the program's. -/
import Derived.Test.YtfhomgggbhjglaaGreatMuB
namespace Go.MB
open Go Go.Sx Go.Proofs
set_option linter.unusedVariables false
set_option linter.unusedSimpArgs false
noncomputable section
theorem orN(a b:Nat)(ha:a<18446744073709551616)(hb:b<18446744073709551616):bits .or .u64 (a:Int) (b:Int)=((a |||b:Nat):Int):=bits_or_u64_nat a b ha hb
theorem andN(a b:Nat)(ha:a<18446744073709551616)(hb:b<18446744073709551616):bits .and .u64 (a:Int) (b:Int)=((a &&& b:Nat):Int):=bits_and_u64_nat a b ha hb
theorem shl1{i:Int}(h0:0<=i) (h1:i<64):shlI .u64 1 i=((1 <<< i.toNat:Nat):Int):=by
 show IntKind.wrap .u64 (1*2 ^ min i.toNat 64)=_
 rw[IntKind.wrap_u64,Int.one_mul,show min i.toNat 64=i.toNat by omega,Nat.one_shiftLeft]
 have h:(2:Nat) ^ i.toNat<18446744073709551616:=Nat.lt_of_lt_of_le (Nat.pow_lt_pow_right (by decide) (show i.toNat<64 by omega)) (by decide)
 have e:((2:Int) ^ i.toNat)=((2 ^ i.toNat:Nat):Int):=by simp
 rw[e]
 generalize (2:Nat) ^ i.toNat=z at *
 omega
theorem or_lt{a b n:Nat}(ha:a<2 ^ n) (hb:b<2 ^ n):a |||b<2 ^ n:=Nat.or_lt_two_pow ha hb
theorem one_lt{i:Int}{n:Nat}(h0:0<=i) (h1:i<n):1 <<< i.toNat<2 ^ n:=by
 rw[Nat.one_shiftLeft]
 exact Nat.pow_lt_pow_right (by decide) (by omega)
theorem ofN_step{l:List Int}{i:Int}{s:Nat}(h0:0<=i) (h:i<l.length):ofN (l.drop i.toNat) s=ofN (l.drop (i+1).toNat) (s |||1 <<< (l.getD i.toNat 0).toNat):=by
 rw[jK (0:Int) h0 h,ofN]
def gM(n:Int)(l:List Int):Prop:=l.length<=1000/\∀i∈l,0<=i/\i<n
def L_of0:Lay:={ slots:=[(3,.val (.int .u64)),(6,.val tIs),(7,.val tI),(8,.val tI)] }
def L_of0_0:Lay:={ slots:=[(3,.val (.int .u64))] }
def X_of0:Exit->St->Option Lay
 |.exit 0,_=>some L_of0_0
 |_,_=>none
abbrev C_of0:Code:=jH (zJ Tryz.f118) 0
abbrev AuC5:Type:=Int×List Int×Int×Int×Unit
theorem B_of0(s:Int)(m:List Int)(n i:Int):zF (P:=P) [] (zH []) [] 18 noU (jI C_of0) L_of0 X_of0 (α:=AuC5) (fun x=>x) (fun x=>x) (s,m,n,i,()) =
 Tree.cond (decide (i<n)) (.need (0<=i/\i<(m.length:Int)) (.need (0<=m.getD i.toNat 0) (.leaf (Sum.inl (bits BinOp.or IntKind.u64 s (shlI IntKind.u64 1 (m.getD i.toNat 0)),m,n,IntKind.i64.wrap (i+1),()))))) (.leaf (Sum.inr (Exit.exit 0,Lay.st L_of0_0 noU (s,())))):=by kernel_rfl
def inv_of0:AuC5->Prop:=fun(s,m,n,i,_)=>n=m.length/\0<=i/\i<=n/\gM 10 m/\0<=s/\s<1024
def O_of0:AuC5->Tree (Exit×St):=fun(s,m,_,i,_)=>(.leaf (.exit 0,L_of0_0.st noU (((ofN (m.drop i.toNat) s.toNat:Int)),())))
def R_of0:jS:=j_ 18 L_of0 (fun x=>x) inv_of0 O_of0
theorem K_of0:zU P [] 18 none noU C_of0 R_of0:=by
 refine zT hm (cx:=[]) [] (xl:=X_of0) (α:=AuC5) (fun x=>x) (fun(_,_,n,i,_)=>(n - i).toNat) (fun _=>rfl) (by kernel_rfl) (by kernel_rfl) ?_ (by kernel_rfl) trivial ?_
 ·intro e S L' h
  unfold X_of0 at h
  split at h<;>cases h<;>kernel_rfl
 ·rintro⟨s,m,n,i,⟨⟩⟩ hinv Q hQ
  refine zD (B_of0 s m n i) ?_
  obtain⟨rfl,h0,h1,⟨h2,h3⟩,h4,h5⟩:=hinv
  rw[jZ (n:=i+1) (by omega) (by omega)]
  unfold O_of0 at hQ
  dsimp only at hQ
  obtain⟨S,rfl⟩:=Int.eq_ofNat_of_zero_le h4
  simp only[Int.toNat_natCast] at hQ
  refine⟨fun c1=>?_,fun c1=>?_⟩
  ·have c1:=dcT c1
   have hy:=h3 _ (jT (d:=(0:Int)) (show i.toNat<m.length by omega))
   rw[ofN_step h0 c1] at hQ
   generalize m.getD i.toNat 0=y at *
   have b1:=one_lt (n:=10) hy.1 (by omega)
   have b2:=or_lt (n:=10) (a:=S) (by omega) b1
   rw[shl1 hy.1 (by omega),orN _ _ (by omega) (by omega)]
   exact⟨⟨h0,c1⟩,hy.1,⟨⟨rfl,by omega,by omega,⟨h2,h3⟩,by omega,by omega⟩,by show ((m.length:Int) - (i+1)).toNat<((m.length:Int) - i).toNat;omega⟩,hQ⟩
  ·rw[jB (dcF c1)] at hQ
   exact hQ
theorem T_of(l:List Int):jD (P:=P) [] (zH [(0,R_of0)]) Tryz.f118 (z_ 0 [.val tIs] (l,())) =
 Tree.need (inv_of0 ((0:Int),l,(l.length:Int),0,())) (.leaf (SV.int IntKind.u64 (↑(ofN (List.drop (Int.toNat 0) l) (Int.toNat 0)):Int))):=by kernel_rfl
def c_of:PC P:=PC.of (α:=List Int×Unit) 118 [.val tIs] (fun x=>x) (fun x=>x) (fun _=>rfl)
 (fun x=>some (gM 10 x.1))
 (fun x=>.int .u64 (ofN x.1 0:Int)) (by kernel_rfl) (by
  rintro⟨l,⟨⟩⟩ hp
  refine yK hm (by kernel_rfl) (by kernel_rfl) (T_of l) ⟨K_of0,trivial⟩ ?_
  try dsimp only at hp
  try dsimp only
  have hp' : gM 10 l:=hp
  exact⟨⟨rfl,by decide,by omega,hp',by decide,by decide⟩,rfl⟩)
theorem T_eff(E0 E1 E2 E3 tick press:Int):jD (P:=P) [wE.gc] (zH []) Tryz.f119 (z_ 0 [.agg (.pair tI tV),.val tI,.val tI] ((E0,(E1,(E2,E3))),tick,press,())) =
 Tree.cond (E0==2) (.cond (wi tick E2 E3) (.leaf (.bool (decide (E1>=press)))) (.leaf (.bool false))) (.leaf (.bool false)):=by kernel_rfl
def c_eff:PC P:=PC.of (α:=(Int×V)×Int×Int×Unit) 119 [.agg (.pair tI tV),.val tI,.val tI] (fun x=>x) (fun x=>x) (fun _=>rfl)
 (fun _=>none)
 (fun x=>.bool (fI x.1 x.2.1 x.2.2.1)) (by kernel_rfl) (by
  rintro⟨⟨E0,⟨E1,⟨E2,E3⟩⟩⟩,tick,press,⟨⟩⟩ hp
  refine yK hm (by kernel_rfl) (by kernel_rfl) (T_eff E0 E1 E2 E3 tick press) trivial ?_
  try dsimp only at hp
  try dsimp only
  show Tree.holds (fun s=>s=SV.bool (fI (E0,E1,E2,E3) tick press)) _
  unfold fI
  dsimp only
  refine⟨fun c1=>⟨fun c2=>?_,fun c2=>?_⟩,fun c1=>?_⟩
  ·rw[decide_eq_true (show E0=2 by simpa using c1),c2];exact rfl
  ·rw[decide_eq_true (show E0=2 by simpa using c1),c2];exact rfl
  ·rw[decide_eq_false (show ¬ E0=2 by simpa using c1)];exact rfl)
theorem worksN_step{tick press:Int}{l:List E4}{i:Int}{s:Nat}(h0:0<=i) (h:i<l.length):yE tick press (l.drop i.toNat) i.toNat s=yE tick press (l.drop (i+1).toNat) (i+1).toNat (if fI (l.getD i.toNat (0,0,0,0)) tick press=true then s |||1 <<< i.toNat else s):=by
 rw[jK ((0,0,0,0):E4) h0 h,yE,show (i+1).toNat=i.toNat+1 by omega]
theorem standN_step{s:Nat}{l:List (List Int)}{i:Int}(h0:0<=i) (h:i<l.length):vN s (l.drop i.toNat) i=if ofN (l.getD i.toNat []) 0 &&& s=ofN (l.getD i.toNat []) 0 then i::vN s (l.drop (i+1).toNat) (i+1) else vN s (l.drop (i+1).toNat) (i+1):=by
 rw[jK ([]:List Int) h0 h,vN]
def L_works0:Lay:={ slots:=[(1,.val tI),(2,.val tI),(7,.val (.int .u64)),(11,.val (.sl (.pair tI tV))),(12,.val tI),(13,.val tI)] }
def L_works0_0:Lay:={ slots:=[(7,.val (.int .u64))] }
def X_works0:Exit->St->Option Lay
 |.exit 0,_=>some L_works0_0
 |_,_=>none
abbrev C_works0:Code:=jH (zJ Tryz.f83) 0
abbrev AuC4:Type:=Int×Int×Int×List (Int×V)×Int×Int×Unit
theorem B_works0(tick press s:Int)(l:List (Int×V))(n i:Int):zF (P:=P) [c_eff.gc] (zH []) [] 28 noU (jI C_works0) L_works0 X_works0 (α:=AuC4) (fun x=>x) (fun x=>x) (tick,press,s,l,n,i,()) =
 Tree.cond (decide (i<n)) (.need (0<=i/\i<(l.length:Int)) (.cond (fI (l.getD i.toNat (0,0,0,0)) tick press) (.need (0<=i) (.leaf (Sum.inl (tick,press,bits BinOp.or IntKind.u64 s (shlI IntKind.u64 1 i),l,n,IntKind.i64.wrap (i+1),())))) (.leaf (Sum.inl (tick,press,s,l,n,IntKind.i64.wrap (i+1),()))))) (.leaf (Sum.inr (Exit.exit 0,Lay.st L_works0_0 noU (s,())))):=by kernel_rfl
def inv_works0:AuC4->Prop:=fun(_,_,s,l,n,i,_)=>n=l.length/\0<=i/\i<=n/\l.length<=10/\0<=s/\s<1024
def O_works0:AuC4->Tree (Exit×St):=fun(tick,press,s,l,_,i,_)=>(.leaf (.exit 0,L_works0_0.st noU (((yE tick press (l.drop i.toNat) i.toNat s.toNat:Int)),())))
def R_works0:jS:=j_ 28 L_works0 (fun x=>x) inv_works0 O_works0
theorem K_works0:zU P [] 28 none noU C_works0 R_works0:=by
 refine zT hm (cx:=[c_eff.gc]) [] (xl:=X_works0) (α:=AuC4) (fun x=>x) (fun(_,_,_,_,n,i,_)=>(n - i).toNat) (fun _=>rfl) (by kernel_rfl) (by kernel_rfl) ?_ (by kernel_rfl) trivial ?_
 ·intro e S L' h
  unfold X_works0 at h
  split at h<;>cases h<;>kernel_rfl
 ·rintro⟨tick,press,s,l,n,i,⟨⟩⟩ hinv Q hQ
  refine zD (B_works0 tick press s l n i) ?_
  obtain⟨rfl,h0,h1,h2,h4,h5⟩:=hinv
  rw[jZ (n:=i+1) (by omega) (by omega)]
  unfold O_works0 at hQ
  dsimp only at hQ
  obtain⟨S,rfl⟩:=Int.eq_ofNat_of_zero_le h4
  simp only[Int.toNat_natCast] at hQ
  refine⟨fun c1=>?_,fun c1=>?_⟩
  ·have c1:=dcT c1
   have mm:((l.length:Int) - (i+1)).toNat<((l.length:Int) - i).toNat:=by omega
   rw[worksN_step h0 c1] at hQ
   refine⟨⟨h0,c1⟩,fun c2=>⟨h0,?_⟩,fun c2=>?_⟩
   ·have c2:fI (l.getD i.toNat (0,0,0,0)) tick press=true:=c2
    rw[if_pos c2] at hQ
    have b1:=one_lt (n:=10) h0 (by omega)
    have b2:=or_lt (n:=10) (a:=S) (by omega) b1
    rw[shl1 h0 (by omega),orN _ _ (by omega) (by omega)]
    exact⟨⟨⟨rfl,by omega,by omega,h2,by omega,by omega⟩,mm⟩,hQ⟩
   ·have c2:fI (l.getD i.toNat (0,0,0,0)) tick press=false:=c2
    rw[if_neg (by rw[c2];simp)] at hQ
    exact⟨⟨⟨rfl,by omega,by omega,h2,by omega,by omega⟩,mm⟩,hQ⟩
  ·rw[jB (dcF c1)] at hQ
   exact hQ
theorem T_works(qK:List (Int×V))(wG:List (List Int))(x_ tick press:Int):jD (P:=P) [] (zH [(0,R_works0)]) Tryz.f83 (z_ 0 [.agg (.pair (.sl (.pair tI tV)) (.pair (.sl tIs) tI)),.val tI,.val tI] ((qK,(wG,x_)),tick,press,())) =
 Tree.need (inv_works0 (tick,press,0,qK,(qK.length:Int),0,())) (.leaf (SV.int IntKind.u64 (↑(yE tick press (List.drop (Int.toNat 0) qK) (Int.toNat 0) (Int.toNat 0)):Int))):=by kernel_rfl
def c_works:PC P:=PC.of (α:=(List (Int×V)×(List (List Int)×Int))×Int×Int×Unit) 83 [.agg (.pair (.sl (.pair tI tV)) (.pair (.sl tIs) tI)),.val tI,.val tI] (fun x=>x) (fun x=>x) (fun _=>rfl)
 (fun x=>some (x.1.1.length<=10))
 (fun x=>.int .u64 (yE x.2.1 x.2.2.1 x.1.1 0 0:Int)) (by kernel_rfl) (by
  rintro⟨⟨qK,⟨wG,x_⟩⟩,tick,press,⟨⟩⟩ hp
  refine yK hm (by kernel_rfl) (by kernel_rfl) (T_works qK wG x_ tick press) ⟨K_works0,trivial⟩ ?_
  try dsimp only at hp
  try dsimp only
  have hp' : qK.length<=10:=hp
  exact⟨⟨rfl,by decide,by omega,hp',by decide,by decide⟩,rfl⟩)
def L_stnd0:Lay:={ slots:=[(1,.val (.int .u64)),(5,.row 3 tI),(10,.val (.sl tIs)),(11,.val tI),(12,.val tI)] }
def L_stnd0_0:Lay:={ slots:=[(5,.row 3 tI)] }
def X_stnd0:Exit->St->Option Lay
 |.exit 0,_=>some L_stnd0_0
 |_,_=>none
abbrev C_stnd0:Code:=jH (zJ Tryz.f97) 0
abbrev AuC3:Type:=Int×List Int×List (List Int)×Int×Int×Unit
theorem B_stnd0(s:Int)(out:List Int)(l:List (List Int))(n i:Int):zF (P:=P) [c_of.gc] (zH []) [] 30 noU (jI C_stnd0) L_stnd0 X_stnd0 (α:=AuC3) (fun x=>x) (fun x=>x) (s,out,l,n,i,()) =
 Tree.cond (decide (i<n)) (.need (0<=i/\i<(l.length:Int)) (.need (gM 10 (l.getD i.toNat [])) (.cond (bits BinOp.and IntKind.u64 (↑(ofN (l.getD i.toNat []) 0):Int) s==(↑(ofN (l.getD i.toNat []) 0):Int)) (.need ((out.length+List.length [i])*8<=140737488355328) (.leaf (Sum.inl (s,out++[i],l,n,IntKind.i64.wrap (i+1),())))) (.leaf (Sum.inl (s,out,l,n,IntKind.i64.wrap (i+1),())))))) (.leaf (Sum.inr (Exit.exit 0,Lay.st L_stnd0_0 noU (out,())))):=by kernel_rfl
def inv_stnd0:AuC3->Prop:=fun(s,out,l,n,i,_)=>n=l.length/\0<=i/\i<=n/\l.length<=1000/\(∀q∈l,gM 10 q)/\(out.length:Int)<=i/\0<=s/\s<1024
def O_stnd0:AuC3->Tree (Exit×St):=fun(s,out,l,_,i,_)=>(.leaf (.exit 0,L_stnd0_0.st noU ((out++vN s.toNat (l.drop i.toNat) i),())))
def R_stnd0:jS:=j_ 30 L_stnd0 (fun x=>x) inv_stnd0 O_stnd0
theorem K_stnd0:zU P [] 30 none noU C_stnd0 R_stnd0:=by
 refine zT hm (cx:=[c_of.gc]) [] (xl:=X_stnd0) (α:=AuC3) (fun x=>x) (fun(_,_,_,n,i,_)=>(n - i).toNat) (fun _=>rfl) (by kernel_rfl) (by kernel_rfl) ?_ (by kernel_rfl) trivial ?_
 ·intro e S L' h
  unfold X_stnd0 at h
  split at h<;>cases h<;>kernel_rfl
 ·rintro⟨s,out,l,n,i,⟨⟩⟩ hinv Q hQ
  refine zD (B_stnd0 s out l n i) ?_
  obtain⟨rfl,h0,h1,h2,h3,h4,h5,h6⟩:=hinv
  rw[jZ (n:=i+1) (by omega) (by omega)]
  unfold O_stnd0 at hQ
  dsimp only at hQ
  obtain⟨S,rfl⟩:=Int.eq_ofNat_of_zero_le h5
  simp only[Int.toNat_natCast] at hQ
  refine⟨fun c1=>?_,fun c1=>?_⟩
  ·have c1:=dcT c1
   have mm:((l.length:Int) - (i+1)).toNat<((l.length:Int) - i).toNat:=by omega
   have hy:=h3 _ (jT (d:=([]:List Int)) (show i.toNat<l.length by omega))
   rw[standN_step h0 c1] at hQ
   generalize l.getD i.toNat []=q at *
   have b1:=ofN_lt (n:=10) (s:=0) (l:=q) (by decide) (by decide) (fun i hi=>(hy.2 i hi).2)
   rw[andN _ _ (by omega) (by omega)]
   refine⟨⟨h0,c1⟩,hy,fun c2=>⟨by simp only[List.length_cons,List.length_nil];omega,?_⟩,fun c2=>?_⟩
   ·have c2:ofN q 0 &&& S=ofN q 0:=by
     have:((ofN q 0 &&& S:Nat):Int)=(ofN q 0:Int):=by simpa using c2
     omega
    rw[if_pos c2,List.append_cons] at hQ
    exact⟨⟨⟨rfl,by omega,by omega,h2,h3,by simp only[List.length_append,List.length_cons,List.length_nil];omega,by omega,by omega⟩,mm⟩,hQ⟩
   ·have c2:¬ ofN q 0 &&& S=ofN q 0:=by
     have:¬ ((ofN q 0 &&& S:Nat):Int)=(ofN q 0:Int):=by simpa using c2
     omega
    rw[if_neg c2] at hQ
    exact⟨⟨⟨rfl,by omega,by omega,h2,h3,by omega,by omega,by omega⟩,mm⟩,hQ⟩
  ·rw[jB (dcF c1),vN,List.append_nil] at hQ
   exact hQ
theorem T_standing(qK:List (Int×V))(wG:List (List Int))(x_ s:Int):jD (P:=P) [] (zH [(0,R_stnd0)]) Tryz.f97 (z_ 0 [.agg (.pair (.sl (.pair tI tV)) (.pair (.sl tIs) tI)),.val (.int .u64)] ((qK,(wG,x_)),s,())) =
 Tree.need (inv_stnd0 (s,[],wG,(wG.length:Int),0,())) (.leaf (.sl (Ty.int IntKind.i64) (vN s.toNat (List.drop (Int.toNat 0) wG) 0))):=by kernel_rfl
def c_standing:PC P:=PC.of (α:=(List (Int×V)×(List (List Int)×Int))×Int×Unit) 97 [.agg (.pair (.sl (.pair tI tV)) (.pair (.sl tIs) tI)),.val (.int .u64)] (fun x=>x) (fun x=>x) (fun _=>rfl)
 (fun x=>some (x.1.2.1.length<=1000/\(∀q∈x.1.2.1,gM 10 q)/\0<=x.2.1/\x.2.1<1024))
 (fun x=>.sl tI (vN x.2.1.toNat x.1.2.1 0)) (by kernel_rfl) (by
  rintro⟨⟨qK,⟨wG,x_⟩⟩,s,⟨⟩⟩ hp
  refine fn_le hm (by kernel_rfl) (by kernel_rfl) (T_standing qK wG x_ s) ⟨K_stnd0,trivial⟩ (by kernel_rfl) ?_
  try dsimp only at hp
  try dsimp only
  obtain⟨p1,p2,p3,p4⟩:wG.length<=1000/\(∀q∈wG,gM 10 q)/\0<=s/\s<1024:=hp
  exact⟨⟨rfl,by decide,by omega,p1,p2,by decide,p3,p4⟩,rfl⟩)
def srS(envs:List (List Int))(up:List Int)(k u:Int)(now:List Int)(need:Int):Option (List Int):=f_ envs (up.drop k.toNat) u.toNat now (need - now.length).toNat
def srOk(u:Int)(now:List Int)(envs:List (List Int))(need:Int)(up:List Int):Prop :=
 (0<=u/\u<1024)/\((now.length:Int)<=need/\need<=3)/\up.length<=1000/\(∀i∈up,0<=i/\i<envs.length)/\∀l∈envs,gM 10 l
theorem prfU_zero(envs:List (List Int))(l:List Int)(u:Nat)(so:List Int):f_ envs l u so 0=some so:=by cases l<;>rfl
theorem prfU_len{envs:List (List Int)}:∀{l:List Int}{u:Nat}{so:List Int}{n:Nat}{x:List Int},f_ envs l u so n=some x->x.length=so.length+n
 |l,u,so,0,x,h=>by rw[prfU_zero] at h;cases h;rfl
 | [],u,so,n+1,x,h=>by cases h
 |k::r,u,so,n+1,x,h=>by
  rw[f_] at h
  split at h
  ·exact prfU_len h
  ·split at h
   ·rename_i y hy
    cases h
    have:=prfU_len hy
    rw[List.length_append,List.length_singleton] at this
    omega
   ·exact prfU_len h
def orS{α:Type}:Option α->Option α->Option α
 |some x,_=>some x
 |none,y=>y
theorem srS_step{envs:List (List Int)}{up:List Int}{k u:Int}{now:List Int}{need:Int}(h0:0<=k) (h:k<up.length) (hn:(now.length:Int)<need) :
  srS envs up k u now need=if ofN (yQ envs (up.getD k.toNat 0)) 0 &&& u.toNat≠0 then srS envs up (k+1) u now need
   else orS (srS envs up (k+1) ((u.toNat |||ofN (yQ envs (up.getD k.toNat 0)) 0:Nat):Int) (now++[up.getD k.toNat 0]) need) (srS envs up (k+1) u now need):=by
 unfold srS
 obtain⟨m,hm⟩:∃m:Nat,(need - now.length).toNat=m+1:=⟨(need - now.length).toNat - 1,by omega⟩
 have e:∀y:Int,(need - ((now++[y]).length:Nat)).toNat=m:=fun y=>by rw[List.length_append,List.length_singleton];omega
 rw[jK (0:Int) h0 h,hm,f_,e,Int.toNat_natCast]
 cases f_ envs (List.drop (k+1).toNat up) (u.toNat |||ofN (yQ envs (up.getD k.toNat 0)) 0) (now++[up.getD k.toNat 0]) m<;>rfl
theorem srS_zero{envs:List (List Int)}{up:List Int}{k u:Int}{now:List Int}{need:Int}(hn:(now.length:Int)=need):srS envs up k u now need=some now:=by
 unfold srS
 rw[show (need - now.length).toNat=0 by omega,prfU_zero]
theorem srS_end{envs:List (List Int)}{up:List Int}{k u:Int}{now:List Int}{need:Int}(h:¬ k<up.length) (hn:(now.length:Int)<need):srS envs up k u now need=none:=by
 unfold srS
 obtain⟨m,hm⟩:∃m:Nat,(need - now.length).toNat=m+1:=⟨(need - now.length).toNat - 1,by omega⟩
 rw[jB h,hm,f_]
def xR:Lay:={ slots:=[(0,.val tI),(1,.val (.int .u64)),(2,.ptr 1 0),(3,.ptr 2 0),(4,.ptr 3 0),(5,.ptr 4 0)],boxes:=[(1,[.row 3 tI]),(2,[.val tEls,.val gR,.val tI]),(3,[.val tIs]),(4,[.clo 117 [(1,0),(2,0),(3,0),(4,0)]])],rb:=2000000 }
abbrev AuC1:Type:=Int×Int×Unit×Unit×Unit×Unit×List Int×List E4×List (List Int)×Int×List Int×Unit×Unit
def pre_srch:AuC1->Prop:=fun(k,u,_,_,_,_,now,_,envs,need,up,_)=>srOk u now envs need up/\0<=k/\k<=up.length
def mu_srch:AuC1->Nat:=fun(k,_,_,_,_,_,_,_,_,_,up,_)=>(up.length - k).toNat
def out_srch:AuC1->MOut:=fun(k,u,_,_,_,_,now,els,envs,need,up,_)=>⟨.bool (srS envs up k u now need).isSome,[[.own 100],[.sl tEl els,.sl tIs envs,.int .i64 need],[.sl tI up],[.fn 117 [.ptr 1 0,.ptr 2 0,.ptr 3 0,.ptr 4 0]]],[.row 3 tI ((srS envs up k u now need).getD now)]⟩
def H_srch(n:Nat):Prop:=∀a:AuC1,ndP (some (pre_srch a/\mu_srch a<n))->qV P 117 xR ((fun x=>x) a) (out_srch a)
def r_srch(n:Nat)(hok:H_srch n):MC P:=MC.of (α:=AuC1) 117 xR (fun x=>x) (fun x=>x) (fun _=>rfl) (fun a=>some (pre_srch a/\mu_srch a<n)) out_srch (by kernel_rfl) (by kernel_rfl) (by kernel_rfl) hok
def L_srchL:Lay:={ slots:=[(1,.val (.int .u64)),(2,.ptr 1 0),(3,.ptr 2 0),(4,.ptr 3 0),(5,.ptr 4 0),(9,.val tI)],boxes:=[(1,[.row 3 tI]),(2,[.val tEls,.val gR,.val tI]),(3,[.val tIs]),(4,[.clo 117 [(1,0),(2,0),(3,0),(4,0)]])] }
def L_srchL_0:Lay:={ slots:=[(8,.val .bool)],boxes:=[(1,[.row 3 tI]),(2,[.val tEls,.val gR,.val tI]),(3,[.val tIs]),(4,[.clo 117 [(1,0),(2,0),(3,0),(4,0)]])] }
def L_srchL_1:Lay:={ slots:=[],boxes:=[(1,[.row 3 tI]),(2,[.val tEls,.val gR,.val tI]),(3,[.val tIs]),(4,[.clo 117 [(1,0),(2,0),(3,0),(4,0)]])] }
def X_srchL:Exit->St->Option Lay
 |.ret,_=>some L_srchL_0
 |.exit 0,_=>some L_srchL_1
 |_,_=>none
abbrev C_srchL:Code:=jH (zJ Tryz.f117) 0
abbrev AuC2:Type:=Int×Unit×Unit×Unit×Unit×Int×List Int×List E4×List (List Int)×Int×List Int×Unit×Unit
theorem B_srchL(n:Nat)(hok:H_srch n)(u k:Int)(now:List Int)(els:List E4)(envs:List (List Int))(need:Int)(up:List Int):zF (P:=P) [c_of.gc,(r_srch n hok).gc] (zH []) [] 55 (usd noU (xR.ids++jC 2000000 xR.shs)) (jI C_srchL) L_srchL X_srchL (α:=AuC2) (fun x=>x) (fun x=>x) (u,(),(),(),(),k,now,els,envs,need,up,(),()) =
 Tree.cond (decide (k<(up.length:Int))) (.need (0<=k/\k<(up.length:Int)) (.need (0<=up.getD k.toNat 0/\up.getD k.toNat 0<(envs.length:Int)) (.need (gM 10 (List.getD envs (Int.toNat (up.getD k.toNat 0)) [])) (.cond (bits BinOp.and IntKind.u64 (↑(ofN (List.getD envs (Int.toNat (up.getD k.toNat 0)) []) 0):Int) u != 0) (.leaf (Sum.inl (u,(),(),(),(),IntKind.i64.wrap (k+1),now,els,envs,need,up,(),()))) (.need (0<=k/\k<(up.length:Int)) (.need ((now.length+List.length [up.getD k.toNat 0])*8<=140737488355328) (.need (pre_srch (IntKind.i64.wrap (k+1),bits BinOp.or IntKind.u64 u (↑(ofN (List.getD envs (Int.toNat (up.getD k.toNat 0)) []) 0):Int),(),(),(),(),now++[up.getD k.toNat 0],els,envs,need,up,(),())/\mu_srch (IntKind.i64.wrap (k+1),bits BinOp.or IntKind.u64 u (↑(ofN (List.getD envs (Int.toNat (up.getD k.toNat 0)) []) 0):Int),(),(),(),(),now++[up.getD k.toNat 0],els,envs,need,up,(),())<n) (.cond (Option.isSome (srS envs up (IntKind.i64.wrap (k+1)) (bits BinOp.or IntKind.u64 u (↑(ofN (List.getD envs (Int.toNat (up.getD k.toNat 0)) []) 0):Int)) (now++[up.getD k.toNat 0]) need)) (.leaf (Sum.inr (Exit.ret,Lay.st L_srchL_0 (usd noU (Lay.ids xR++jC 2000000 (Lay.shs xR))) (true,Option.getD (srS envs up (IntKind.i64.wrap (k+1)) (bits BinOp.or IntKind.u64 u (↑(ofN (List.getD envs (Int.toNat (up.getD k.toNat 0)) []) 0):Int)) (now++[up.getD k.toNat 0]) need) (now++[up.getD k.toNat 0]),els,envs,need,up,(),())))) (.need (0<=IntKind.i64.wrap ((↑(List.length (Option.getD (srS envs up (IntKind.i64.wrap (k+1)) (bits BinOp.or IntKind.u64 u (↑(ofN (List.getD envs (Int.toNat (up.getD k.toNat 0)) []) 0):Int)) (now++[up.getD k.toNat 0]) need) (now++[up.getD k.toNat 0]))):Int) - 1)/\IntKind.i64.wrap ((↑(List.length (Option.getD (srS envs up (IntKind.i64.wrap (k+1)) (bits BinOp.or IntKind.u64 u (↑(ofN (List.getD envs (Int.toNat (up.getD k.toNat 0)) []) 0):Int)) (now++[up.getD k.toNat 0]) need) (now++[up.getD k.toNat 0]))):Int) - 1)<=(↑(List.length (Option.getD (srS envs up (IntKind.i64.wrap (k+1)) (bits BinOp.or IntKind.u64 u (↑(ofN (List.getD envs (Int.toNat (up.getD k.toNat 0)) []) 0):Int)) (now++[up.getD k.toNat 0]) need) (now++[up.getD k.toNat 0]))):Int)) (.leaf (Sum.inl (u,(),(),(),(),IntKind.i64.wrap (k+1),List.take (Int.toNat (IntKind.i64.wrap ((↑(List.length (Option.getD (srS envs up (IntKind.i64.wrap (k+1)) (bits BinOp.or IntKind.u64 u (↑(ofN (List.getD envs (Int.toNat (up.getD k.toNat 0)) []) 0):Int)) (now++[up.getD k.toNat 0]) need) (now++[up.getD k.toNat 0]))):Int) - 1))) (Option.getD (srS envs up (IntKind.i64.wrap (k+1)) (bits BinOp.or IntKind.u64 u (↑(ofN (List.getD envs (Int.toNat (up.getD k.toNat 0)) []) 0):Int)) (now++[up.getD k.toNat 0]) need) (now++[up.getD k.toNat 0])),els,envs,need,up,(),())))))))))))) (.leaf (Sum.inr (Exit.exit 0,Lay.st L_srchL_1 (usd noU (Lay.ids xR++jC 2000000 (Lay.shs xR))) (now,els,envs,need,up,(),())))):=by kernel_rfl
def inv_srchL(n:Nat)(hok:H_srch n):AuC2->Prop:=fun(u,_,_,_,_,k,now,_,envs,need,up,_)=>srOk u now envs need up/\0<=k/\k<=up.length/\(up.length - k).toNat<=n/\(now.length:Int)<need
def O_srchL(n:Nat)(hok:H_srch n):AuC2->Tree (Exit×St):=fun(u,_,_,_,_,k,now,els,envs,need,up,_)=>.cond (srS envs up k u now need).isSome (.leaf (.ret,L_srchL_0.st (usd noU (xR.ids++jC 2000000 xR.shs)) (true,(srS envs up k u now need).getD now,els,envs,need,up,(),()))) (.leaf (.exit 0,L_srchL_1.st (usd noU (xR.ids++jC 2000000 xR.shs)) (now,els,envs,need,up,(),())))
def R_srchL(n:Nat)(hok:H_srch n):jS:=j_ 55 L_srchL (fun x=>x) (inv_srchL n hok) (O_srchL n hok)
theorem K_srchL(n:Nat)(hok:H_srch n):zU P [] 55 none (usd noU (xR.ids++jC 2000000 xR.shs)) C_srchL (R_srchL n hok):=by
 refine zT hm (cx:=[c_of.gc,(r_srch n hok).gc]) [] (xl:=X_srchL) (α:=AuC2) (fun x=>x) (fun(_,_,_,_,_,k,_,_,_,_,up,_)=>(up.length - k).toNat) (fun _=>rfl) (by kernel_rfl) (by kernel_rfl) ?_ (by kernel_rfl) trivial ?_
 ·intro e S L' h
  unfold X_srchL at h
  split at h<;>cases h<;>kernel_rfl
 ·rintro⟨u,⟨⟩,⟨⟩,⟨⟩,⟨⟩,k,now,els,envs,need,up,⟨⟩,⟨⟩⟩ hinv Q hQ
  refine zD (B_srchL n hok u k now els envs need up) ?_
  obtain⟨h0,h1,h2,h3,h4⟩:=hinv
  unfold O_srchL at hQ
  dsimp only at hQ
  obtain⟨⟨u0,u1⟩,⟨n0,n1⟩,p1,p2,p3⟩:=h0
  rw[jZ (n:=k+1) (by omega) (by omega)]
  refine⟨fun c1=>?_,fun c1=>?_⟩
  ·have c1:=dcT c1
   have mm:((up.length:Int) - (k+1)).toNat<((up.length:Int) - k).toNat:=by omega
   have hy:=p2 _ (jT (d:=(0:Int)) (show k.toNat<up.length by omega))
   rw[srS_step h1 c1 h4] at hQ
   generalize up.getD k.toNat 0=y at *
   have he:gM 10 (envs.getD y.toNat []):=p3 _ (jT (by omega))
   have ev:yQ envs y=envs.getD y.toNat []:=rfl
   rw[ev] at hQ
   generalize envs.getD y.toNat []=q at *
   have b1:=ofN_lt (n:=10) (s:=0) (l:=q) (by decide) (by decide) (fun i hi=>(he.2 i hi).2)
   obtain⟨S,rfl⟩:=Int.eq_ofNat_of_zero_le u0
   have b2:=or_lt (n:=10) (a:=S) (by omega) b1
   rw[Int.toNat_natCast] at hQ
   rw[andN _ _ (by omega) (by omega),orN _ _ (by omega) (by omega)]
   have ll:((now++[y]).length:Int)=now.length+1:=by rw[List.length_append,List.length_singleton];omega
   refine⟨⟨h1,c1⟩,hy,he,fun c2=>?_,fun c2=>⟨⟨h1,c1⟩,by simp only[List.length_cons,List.length_nil];omega,⟨⟨⟨⟨by omega,by omega⟩,⟨by omega,n1⟩,p1,p2,p3⟩,by omega,by omega⟩,?_⟩,fun c3=>?_,fun c3=>?_⟩⟩
   ·have c2:ofN q 0 &&& S≠0:=by
     have:((ofN q 0 &&& S:Nat):Int)≠0:=by simpa using c2
     omega
    rw[if_pos c2] at hQ
    exact⟨⟨⟨⟨⟨by omega,by omega⟩,⟨n0,n1⟩,p1,p2,p3⟩,by omega,by omega,by omega,h4⟩,mm⟩,hQ⟩
   ·show ((up.length:Int) - (k+1)).toNat<n
    omega
   all_goals
    have c2:¬ ofN q 0 &&& S≠0:=by
     have:((ofN q 0 &&& S:Nat):Int)=0:=by simpa using c2
     omega
    rw[if_neg c2] at hQ
   ·cases hr:srS envs up (k+1) ((S |||ofN q 0:Nat):Int) (now++[y]) need with
    |none=>rw[hr] at c3;cases c3
    |some x=>
     rw[hr] at hQ
     exact hQ.1 (by simp[orS])
   ·cases hr:srS envs up (k+1) ((S |||ofN q 0:Nat):Int) (now++[y]) need with
    |some x=>rw[hr] at c3;cases c3
    |none=>
     rw[hr,show ∀y:Option (List Int),orS none y=y from fun _=>rfl] at hQ
     have et:List.take (((now++[y]).length:Int) - 1).toNat (now++[y])=now:=by
      rw[show (((now++[y]).length:Int) - 1).toNat=now.length by omega,List.take_left]
     simp only[Option.getD_none]
     rw[jZ (n:=((now++[y]).length:Int) - 1) (by omega) (by omega),et]
     exact⟨⟨by omega,by omega⟩,⟨⟨⟨⟨by omega,by omega⟩,⟨n0,n1⟩,p1,p2,p3⟩,by omega,by omega,by omega,h4⟩,mm⟩,hQ⟩
  ·rw[srS_end (dcF c1) h4] at hQ
   exact hQ.2 (by simp)
theorem T_srch(n:Nat)(hok:H_srch n)(k u:Int)(now:List Int)(els:List E4)(envs:List (List Int))(need:Int)(up:List Int):jG (P:=P) [c_of.gc] (zH [(0,R_srchL n hok)]) Tryz.f117 xR true (k,u,(),(),(),(),now,els,envs,need,up,(),()) =
 Tree.cond ((now.length:Int)==need) (.leaf { res:=.bool true,boxes:=[[.own (nat_lit 100+0)],[.sl tEl els,.sl tIs envs,.int .i64 need],[.sl tI up],[SV.fn (117:FuncId) [SV.ptr 1 0,SV.ptr 2 0,SV.ptr 3 0,SV.ptr 4 0]]],news:=[.row 3 tI now] }) (.need (inv_srchL n hok (u,(),(),(),(),k,now,els,envs,need,up,(),())) (.cond (Option.isSome (srS envs up k u now need)) (.leaf { res:=.bool true,boxes:=[[.own (nat_lit 100+0)],[.sl tEl els,.sl tIs envs,.int .i64 need],[.sl tI up],[SV.fn (117:FuncId) [SV.ptr 1 0,SV.ptr 2 0,SV.ptr 3 0,SV.ptr 4 0]]],news:=[.row 3 tI (Option.getD (srS envs up k u now need) now)] }) (.leaf { res:=.bool false,boxes:=[[.own (nat_lit 100+0)],[.sl tEl els,.sl tIs envs,.int .i64 need],[.sl tI up],[SV.fn (117:FuncId) [SV.ptr 1 0,SV.ptr 2 0,SV.ptr 3 0,SV.ptr 4 0]]],news:=[.row 3 tI now] }))):=by kernel_rfl
theorem M_srch:∀n,H_srch n:=by
 intro n
 induction n with
 |zero=>exact fun a h=>absurd h.2 (Nat.not_lt_zero _)
 |succ n hok=>
  rintro⟨k,u,⟨⟩,⟨⟩,⟨⟩,⟨⟩,now,els,envs,need,up,⟨⟩,⟨⟩⟩ hp
  refine yG hm (own:=true) (by kernel_rfl) (by kernel_rfl) (by kernel_rfl) (T_srch n hok k u now els envs need up) ⟨K_srchL n hok,trivial⟩ ?_
  obtain⟨⟨h0,h1,h2⟩,h3⟩:=hp
  have h3' : ((up.length:Int) - k).toNat<n+1:=h3
  obtain⟨⟨u0,u1⟩,⟨n0,n1⟩,p1,p2,p3⟩:=h0
  have fin:∀(b:Bool)(x:List Int),srS envs up k u now need=(if b=true then some x else none)->(b=false->x=now)->(⟨SV.bool b,[[SV.own (100+0)],[SV.sl tEl els,SV.sl tIs envs,SV.int .i64 need],[SV.sl tI up],[SV.fn 117 [SV.ptr 1 0,SV.ptr 2 0,SV.ptr 3 0,SV.ptr 4 0]]],[Ob.row 3 tI x]⟩:MOut)=out_srch (k,u,(),(),(),(),now,els,envs,need,up,(),()):=fun b x h hb=>by
   unfold out_srch
   dsimp only
   rw[h]
   cases b with
   |true=>rfl
   |false=>rw[hb rfl];rfl
  refine⟨fun c1=>?_,fun c1=>⟨⟨⟨⟨u0,u1⟩,⟨n0,n1⟩,p1,p2,p3⟩,h1,h2,by omega,?_⟩,fun c2=>?_,fun c2=>?_⟩⟩
  ·have c1:(now.length:Int)=need:=by simpa using c1
   exact fin true now (by rw[srS_zero c1,if_pos rfl]) (fun h=>by cases h)
  ·have c1:¬ (now.length:Int)=need:=by simpa using c1
   omega
  ·cases hr:srS envs up k u now need with
   |none=>rw[hr] at c2;cases c2
   |some x=>exact fin true x (by rw[hr,if_pos rfl]) (fun h=>by cases h)
  ·cases hr:srS envs up k u now need with
   |some x=>rw[hr] at c2;cases c2
   |none=>exact fin false now (by rw[hr,if_neg (by decide)]) (fun _=>rfl)
def c_srch:MC P:=MC.of (α:=AuC1) 117 xR (fun x=>x) (fun x=>x) (fun _=>rfl) (fun a=>some (pre_srch a)) out_srch (by kernel_rfl) (by kernel_rfl) (by kernel_rfl) (fun a h=>M_srch (mu_srch a+1) a ⟨h,Nat.lt_succ_self _⟩)
theorem standN_ok(s:Nat):∀(l:List (List Int))(i:Int),0<=i->(vN s l i).length<=l.length/\∀k∈vN s l i,i<=k/\k<i+l.length
 | [],i,_=>⟨Nat.le_refl _,fun k hk=>(by cases hk)⟩
 |x::l,i,h=>by
  obtain⟨h1,h2⟩:=standN_ok s l (i+1) (by omega)
  rw[vN]
  split
  ·refine⟨by simp only[List.length_cons];omega,fun k hk=>?_⟩
   rw[List.length_cons]
   rcases List.mem_cons.1 hk with rfl |hk
   ·omega
   ·have:=h2 k hk;omega
  ·refine⟨by simp only[List.length_cons];omega,fun k hk=>?_⟩
   rw[List.length_cons]
   have:=h2 k hk;omega
theorem T_proofU(h_0:List (Int×V))(h_1:List (List Int))(h_2 s:Int):jD (P:=P) [c_standing.gc,c_srch.gc] (zH []) Tryz.f82 (z_ 0 [.agg (.pair (.sl (.pair tI tV)) (.pair (.sl tIs) tI)),.val (.int .u64)] ((h_0,(h_1,h_2)),s,())) =
 Tree.need (h_1.length<=1000/\(∀(q:List Int),q∈h_1->gM 10 q)/\0<=s/\s<1024) (.need (pre_srch ((0:Int),(0:Int),(),(),(),(),[],h_0,h_1,h_2,vN s.toNat h_1 0,(),())) (.cond (!Option.isSome (srS h_1 (vN s.toNat h_1 0) 0 0 [] h_2)) (.leaf .nils) (.leaf (.sl (Ty.int IntKind.i64) (Option.getD (srS h_1 (vN s.toNat h_1 0) 0 0 [] h_2) []))))):=by kernel_rfl
def c_proofU:PC P:=PC.of (α:=(List (Int×V)×(List (List Int)×Int))×Int×Unit) 82 [.agg (.pair (.sl (.pair tI tV)) (.pair (.sl tIs) tI)),.val (.int .u64)] (fun x=>x) (fun x=>x) (fun _=>rfl)
 (fun x=>some (x.1.2.1.length<=1000/\(∀q∈x.1.2.1,gM 10 q)/\(0<=x.2.1/\x.2.1<1024)/\1<=x.1.2.2/\x.1.2.2<=3))
 (fun x=>.osl tI ((f_ x.1.2.1 (vN x.2.1.toNat x.1.2.1 0) 0 [] x.1.2.2.toNat).getD [])) (by kernel_rfl) (by
  rintro⟨⟨h_0,⟨h_1,h_2⟩⟩,s,⟨⟩⟩ hp
  refine fn_le hm (by kernel_rfl) (by kernel_rfl) (T_proofU h_0 h_1 h_2 s) trivial (by kernel_rfl) ?_
  try dsimp only at hp
  try dsimp only
  obtain⟨p1,p2,⟨p3,p4⟩,p5,p6⟩:h_1.length<=1000/\(∀q∈h_1,gM 10 q)/\(0<=s/\s<1024)/\1<=h_2/\h_2<=3:=hp
  obtain⟨q1,q2⟩:=standN_ok s.toNat h_1 0 (by decide)
  have e:srS h_1 (vN s.toNat h_1 0) 0 0 [] h_2=f_ h_1 (vN s.toNat h_1 0) 0 [] h_2.toNat:=by
   unfold srS
   rw[List.length_nil,show (h_2 - ((0:Nat):Int)).toNat=h_2.toNat by omega];rfl
  rw[e]
  refine⟨⟨p1,p2,p3,p4⟩,⟨⟨⟨by decide,by decide⟩,⟨by show ((0:Nat):Int)<=_;omega,p6⟩,by omega,fun i hi=>by have:=q2 i hi;omega,p2⟩,by decide,by omega⟩,fun c=>?_,fun c=>?_⟩
  ·cases hr:f_ h_1 (vN s.toNat h_1 0) 0 [] h_2.toNat with
   |some x=>rw[hr] at c;cases c
   |none=>exact rfl
  ·cases hr:f_ h_1 (vN s.toNat h_1 0) 0 [] h_2.toNat with
   |none=>rw[hr] at c;cases c
   |some x=>
    have:=prfU_len hr
    refine⟨fun h=>?_,rfl⟩
    have h:x=[]:=h
    rw[h] at this
    simp at this
    omega)
theorem envB_ok:∀{l:List Int}{n last:Int},zAh n last l=false->(l=[]\/(l.length:Int)<=n - 1 - last)/\∀i∈l,last<i/\i<n
 | [],n,last,_=>⟨.inl rfl,fun i hi=>(by cases hi)⟩
 |x::r,n,last,h=>by
  rw[zAh,Bool.or_eq_false_iff,Bool.or_eq_false_iff] at h
  obtain⟨h1,h2,h3⟩:=h
  have h1:=dcF h1
  have h2:=dcF h2
  obtain⟨i1,i2⟩:=envB_ok h3
  refine⟨.inr ?_,fun i hi=>?_⟩
  ·rw[List.length_cons]
   rcases i1 with rfl |i1
   ·simp;omega
   ·omega
  ·rcases List.mem_cons.1 hi with rfl |hi
   ·omega
   ·have:=i2 i hi;omega
theorem envEs_ok{n:Int}:∀{l:List (List Int)},gA n l=0->∀q∈l,kX n q=0
 | [],_,q,hq=>by cases hq
 |x::r,h,q,hq=>by
  rw[gA] at h
  split at h
  ·rename_i h1;exact absurd h h1
  ·rename_i h1
   rcases List.mem_cons.1 hq with rfl |hq
   ·simpa using h1
   ·exact envEs_ok h q hq
theorem elEs_ok:∀{l:List E4},elEs l=0->∀e∈l,elE e=0
 | [],_,q,hq=>by cases hq
 |x::r,h,q,hq=>by
  rw[elEs] at h
  split at h
  ·rename_i h1;exact absurd h h1
  ·rename_i h1
   rcases List.mem_cons.1 hq with rfl |hq
   ·simpa using h1
   ·exact elEs_ok h q hq
structure HOk (h:Hs):Prop where
 e1:1<=h.1.length
 e10:h.1.length<=10
 v8:h.2.1.length<=8
 el:∀e∈h.1,elE e=0
 ev:∀l∈h.2.1,l≠[]/\l.length<=10/\∀i∈l,0<=i/\i<h.1.length
 nd:1<=h.2.2/\h.2.2<=3
theorem yD{h:Hs}(e:zB h=0):HOk h:=by
 unfold zB at e
 split at e
 ·cases e
 split at e
 ·cases e
 split at e
 ·rename_i h1;exact absurd e h1
 split at e
 ·rename_i h1;exact absurd e h1
 split at e
 ·cases e
 rename_i h1 h2 h3 h4 h5
 refine⟨by omega,by omega,by omega,elEs_ok (by simpa using h3),fun l hl=>?_,by omega⟩
 have:=envEs_ok (by simpa using h4) l hl
 unfold kX at this
 split at this
 ·cases this
 split at this
 ·cases this
 rename_i k1 k2
 have k2:zAh h.1.length (-1) l=false:=by simpa using k2
 obtain⟨j1,j2⟩:=envB_ok k2
 refine⟨fun z=>k1 (by rw[z];rfl),?_,fun i hi=>by have:=j2 i hi;omega⟩
 rcases j1 with rfl |j1
 ·simp
 ·omega
theorem HOk.idx{h:Hs}(k:HOk h):∀q∈h.2.1,gM 10 q:=fun q hq=>by
 obtain⟨_,h2,h3⟩:=k.ev q hq
 exact⟨by omega,fun i hi=>by have:=h3 i hi;have:=k.e10;omega⟩
theorem worksN_lt(tick press:Int){h:Hs}(k:HOk h):yE tick press h.1 0 0<1024:=by
 refine lt_of_bits (n:=10) fun j hj=>?_
 rw[worksN_bit,Nat.zero_testBit,Bool.false_or,Nat.sub_zero,List.getD_eq_getElem?_getD,List.getElem?_eq_none (by rw[List.length_map];have:=k.e10;omega)]
 simp
theorem prfU_F{h:Hs}(k:HOk h) (tick press:Int):f_ h.2.1 (vN (yE tick press h.1 0 0) h.2.1 0) 0 [] h.2.2.toNat=proofF h (xO h tick press):=by
 rw[standN_eq (works_rel h tick press),prfU_eq (fun l hl i hi=>((k.ev l hl).2.2 i hi).1) _ _ _ _ (relU_nil _)]
 rfl
theorem prfU_some{h:Hs}(k:HOk h) {up:List Int}{u:Nat}:(!((f_ h.2.1 up u [] h.2.2.toNat).getD []).isEmpty)=(f_ h.2.1 up u [] h.2.2.toNat).isSome:=by
 cases hr:f_ h.2.1 up u [] h.2.2.toNat with
 |none=>rfl
 |some x=>
  have:=prfU_len hr
  have h1:=k.nd
  cases x with
  |nil=>simp at this;omega
  |cons y z=>rfl
theorem T_holds(h_0:List (Int×V))(h_1:List (List Int))(h_2 tick press:Int):jD (P:=P) [c_works.gc,c_proofU.gc] (zH []) Tryz.f60 (z_ 0 [.agg (.pair (.sl (.pair tI tV)) (.pair (.sl tIs) tI)),.val tI,.val tI] ((h_0,(h_1,h_2)),tick,press,())) =
 Tree.need (h_0.length<=10) (.need (h_1.length<=1000/\(∀(q:List Int),q∈h_1->gM 10 q)/\(0<=(↑(yE tick press h_0 0 0):Int)/\(↑(yE tick press h_0 0 0):Int)<1024)/\1<=h_2/\h_2<=3) (.leaf (.bool !List.isEmpty (Option.getD (f_ h_1 (vN (Int.toNat (↑(yE tick press h_0 0 0):Int)) h_1 0) 0 [] h_2.toNat) [])))):=by kernel_rfl
def c_holds:PC P:=PC.of (α:=(List (Int×V)×(List (List Int)×Int))×Int×Int×Unit) 60 [.agg (.pair (.sl (.pair tI tV)) (.pair (.sl tIs) tI)),.val tI,.val tI] (fun x=>x) (fun x=>x) (fun _=>rfl)
 (fun x=>some (zB x.1=0))
 (fun x=>.bool (zQ x.1 x.2.1 x.2.2.1)) (by kernel_rfl) (by
  rintro⟨⟨h_0,⟨h_1,h_2⟩⟩,tick,press,⟨⟩⟩ hp
  refine yK hm (by kernel_rfl) (by kernel_rfl) (T_holds h_0 h_1 h_2 tick press) trivial ?_
  try dsimp only at hp
  try dsimp only
  have k:=yD (h:=(h_0,(h_1,h_2))) hp
  have w:=worksN_lt tick press k
  have e:=prfU_F k tick press
  have s:=prfU_some k (up:=vN (yE tick press h_0 0 0) h_1 0) (u:=0)
  dsimp only at e s w
  have k1:=k.e10
  have k2:=k.v8
  have k3:=k.nd
  dsimp only at k1 k2 k3
  refine⟨k1,⟨by omega,k.idx,⟨by omega,by omega⟩,k3.1,k3.2⟩,?_⟩
  refine congrArg SV.bool ?_
  rw[Int.toNat_natCast,s,e]
  rfl)
def L_holdsX:Lay:={ slots:=[(0,.agg (.pair (.sl (.pair tI tV)) (.pair (.sl tIs) tI))),(1,.val tI),(2,.val tI)] }
theorem T_holdsX(h_0:List (Int×V))(h_1:List (List Int))(h_2 tick press:Int):jG (P:=P) [c_works.gc,c_proofU.gc] (zH []) Tryz.f60 L_holdsX true ((h_0,(h_1,h_2)),tick,press,()) =
 Tree.need (h_0.length<=10) (.need (h_1.length<=1000/\(∀(q:List Int),q∈h_1->gM 10 q)/\(0<=(↑(yE tick press h_0 0 0):Int)/\(↑(yE tick press h_0 0 0):Int)<1024)/\1<=h_2/\h_2<=3) (.leaf { res:=.bool !List.isEmpty (Option.getD (f_ h_1 (vN (Int.toNat (↑(yE tick press h_0 0 0):Int)) h_1 0) 0 [] h_2.toNat) []),boxes:=[] })):=by kernel_rfl
def c_holdsX:XC P:=XC.of (α:=(List (Int×V)×(List (List Int)×Int))×Int×Int×Unit) 60 L_holdsX (fun x=>x) (fun x=>x) (fun _=>rfl)
 (fun x=>some (zB x.1=0))
 (fun x=>⟨.bool (zQ x.1 x.2.1 x.2.2.1),[],[]⟩) (by kernel_rfl) (by kernel_rfl) (by
  rintro⟨⟨h_0,⟨h_1,h_2⟩⟩,tick,press,⟨⟩⟩ hp
  refine yG hm (own:=true) (by kernel_rfl) (by kernel_rfl) (by kernel_rfl) (T_holdsX h_0 h_1 h_2 tick press) trivial ?_
  try dsimp only at hp
  try dsimp only
  have k:=yD (h:=(h_0,(h_1,h_2))) hp
  have w:=worksN_lt tick press k
  have e:=prfU_F k tick press
  have s:=prfU_some k (up:=vN (yE tick press h_0 0 0) h_1 0) (u:=0)
  dsimp only at e s w
  have k1:=k.e10
  have k2:=k.v8
  have k3:=k.nd
  dsimp only at k1 k2 k3
  refine⟨k1,⟨by omega,k.idx,⟨by omega,by omega⟩,k3.1,k3.2⟩,?_⟩
  refine congrArg (fun b=>(⟨SV.bool b,[],[]⟩:MOut)) ?_
  rw[Int.toNat_natCast,s,e]
  rfl)
def prS(h:Hs)(tick press:Int):List Int×Bool:=if zB h≠0 then ([],false) else ((proofF h (xO h tick press)).getD [],zQ h tick press)
theorem T_Proof(h_0:List (Int×V))(h_1:List (List Int))(h_2 tick press:Int):jD (P:=P) [c_House.gc,c_works.gc,c_proofU.gc] (zH []) Tryz.f35 (z_ 0 [.agg (.pair (.sl (.pair tI tV)) (.pair (.sl tIs) tI)),.val tI,.val tI] ((h_0,(h_1,h_2)),tick,press,())) =
 Tree.need (hOk (h_0,h_1,h_2)) (.cond (zB (h_0,h_1,h_2) != 0) (.leaf (.tup [.nils,.bool false])) (.need (h_0.length<=10) (.need (h_1.length<=1000/\(∀(q:List Int),q∈h_1->gM 10 q)/\(0<=(↑(yE tick press h_0 0 0):Int)/\(↑(yE tick press h_0 0 0):Int)<1024)/\1<=h_2/\h_2<=3) (.leaf (.tup [SV.osl (Ty.int IntKind.i64) (Option.getD (f_ h_1 (vN (Int.toNat (↑(yE tick press h_0 0 0):Int)) h_1 0) 0 [] h_2.toNat) []),.bool !List.isEmpty (Option.getD (f_ h_1 (vN (Int.toNat (↑(yE tick press h_0 0 0):Int)) h_1 0) 0 [] h_2.toNat) [])]))))):=by kernel_rfl
def c_Proof:PC P:=PC.of (α:=(List (Int×V)×(List (List Int)×Int))×Int×Int×Unit) 35 [.agg (.pair (.sl (.pair tI tV)) (.pair (.sl tIs) tI)),.val tI,.val tI] (fun x=>x) (fun x=>x) (fun _=>rfl)
 (fun x=>some (hOk x.1))
 (fun x=>.tup [.sl tI (prS x.1 x.2.1 x.2.2.1).1,.bool (prS x.1 x.2.1 x.2.2.1).2]) (by kernel_rfl) (by
  rintro⟨⟨h_0,⟨h_1,h_2⟩⟩,tick,press,⟨⟩⟩ hp
  refine fn_le hm (by kernel_rfl) (by kernel_rfl) (T_Proof h_0 h_1 h_2 tick press) trivial (by kernel_rfl) ?_
  try dsimp only at hp
  try dsimp only
  have hp' : hOk (h_0,(h_1,h_2)):=hp
  show Tree.holds (fun s=>LeS s (SV.tup [.sl tI (prS (h_0,(h_1,h_2)) tick press).1,.bool (prS (h_0,(h_1,h_2)) tick press).2])) _
  unfold prS
  refine⟨hp',fun c1=>?_,fun c1=>?_⟩
  ·rw[if_pos (by simpa using c1)];exact⟨rfl,rfl,trivial⟩
  have c1:zB (h_0,(h_1,h_2))=0:=by simpa using c1
  rw[if_neg (fun z=>z c1)]
  have k:=yD c1
  have w:=worksN_lt tick press k
  have e:=prfU_F k tick press
  have s:=prfU_some k (up:=vN (yE tick press h_0 0 0) h_1 0) (u:=0)
  dsimp only at e s w
  have k1:=k.e10
  have k2:=k.v8
  have k3:=k.nd
  dsimp only at k1 k2 k3
  refine⟨k1,⟨by omega,k.idx,⟨by omega,by omega⟩,k3.1,k3.2⟩,?_⟩
  rw[Int.toNat_natCast,s,e]
  exact⟨rfl,rfl,trivial⟩)
end
end Go.MB
