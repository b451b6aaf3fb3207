/- The rule: the reference's. -/
import Derived.Test.YtfhomgggbhjglaaGreatMuC
namespace Go.MB
open Go Go.Sx Go.Proofs
set_option linter.unusedVariables false
set_option linter.unusedSimpArgs false
noncomputable section
theorem T_reff(E0 E1 E2 E3 tick press:Int):jD (P:=P) [] (zH []) Tryz.f130 (z_ 0 [.agg (.pair tI tV),.val tI,.val tI] ((E0,(E1,(E2,E3))),tick,press,())) =
 Tree.cond (E0==2) (.cond (decide (tick>=E2)) (.cond (decide (tick<=E3)) (.leaf (.bool (decide (E1>=press)))) (.leaf (.bool false))) (.leaf (.bool false))) (.leaf (.bool false)):=by kernel_rfl
def c_reff:PC P:=PC.of (α:=(Int×V)×Int×Int×Unit) 130 [.agg (.pair tI tV),.val tI,.val tI] (fun x=>x) (fun x=>x) (fun _=>rfl)
 (fun _=>none)
 (fun x=>.bool (fI x.1 x.2.1 x.2.2.1)) (by kernel_rfl) (by
  rintro⟨⟨E0,⟨E1,⟨E2,E3⟩⟩⟩,tick,press,⟨⟩⟩ hp
  refine yK hm (by kernel_rfl) (by kernel_rfl) (T_reff E0 E1 E2 E3 tick press) trivial ?_
  try dsimp only at hp
  try dsimp only
  show Tree.holds (fun s=>s=SV.bool (fI (E0,E1,E2,E3) tick press)) _
  unfold fI wi
  dsimp only
  refine⟨fun c1=>⟨fun c2=>⟨fun c3=>?_,fun c3=>?_⟩,fun c2=>?_⟩,fun c1=>?_⟩
  ·have c2:decide (E2<=tick)=true:=c2
   rw[decide_eq_true (show E0=2 by simpa using c1),c2,c3];exact rfl
  ·have c2:decide (E2<=tick)=true:=c2
   rw[decide_eq_true (show E0=2 by simpa using c1),c2,c3];exact rfl
  ·have c2:decide (E2<=tick)=false:=c2
   rw[decide_eq_true (show E0=2 by simpa using c1),c2];exact rfl
  ·rw[decide_eq_false (show ¬ E0=2 by simpa using c1)];exact rfl)
def L_snd0:Lay:={ slots:=[(1,.val tI),(2,.val tI),(3,.ptr 4028 0),(7,.row 4 .bool),(8,.val tI)],boxes:=[(4028,[.val (.sl (.pair tI tV)),.val (.sl tIs),.val tI])] }
def L_snd0_0:Lay:={ slots:=[(7,.row 4 .bool)] }
def X_snd0:Exit->St->Option Lay
 |.exit 0,_=>some L_snd0_0
 |_,_=>none
abbrev C_snd0:Code:=jH (zJ Tryz.f93) 0
abbrev AuE4:Type:=Int×Int×Unit×List Bool×Int×List (Int×V)×List (List Int)×Int×Unit
theorem B_snd0(tick press:Int)(out:List Bool)(i:Int)(els:List (Int×V))(envs:List (List Int))(need:Int):zF (P:=P) [c_reff.gc] (zH []) [] 28 noU (jI C_snd0) L_snd0 X_snd0 (α:=AuE4) (fun x=>x) (fun x=>x) (tick,press,(),out,i,els,envs,need,()) =
 Tree.cond (decide (i<(els.length:Int))) (.need (0<=i/\i<(els.length:Int)) (.need ((out.length+List.length [fI (els.getD i.toNat (0,0,0,0)) tick press])*1<=140737488355328) (.leaf (Sum.inl (tick,press,(),out++[fI (els.getD i.toNat (0,0,0,0)) tick press],IntKind.i64.wrap (i+1),els,envs,need,()))))) (.leaf (Sum.inr (Exit.exit 0,Lay.st L_snd0_0 noU (out,())))):=by kernel_rfl
def inv_snd0:AuE4->Prop:=fun(_,_,_,out,i,els,_)=>0<=i/\i<=els.length/\els.length<=1000/\(out.length:Int)<=i
def O_snd0:AuE4->Tree (Exit×St):=fun(tick,press,_,out,i,els,_)=>(.leaf (.exit 0,L_snd0_0.st noU ((out++(els.drop i.toNat).map fun e=>fI e tick press),())))
def R_snd0:jS:=j_ 28 L_snd0 (fun x=>x) inv_snd0 O_snd0
theorem K_snd0:zU P [] 28 none noU C_snd0 R_snd0:=by
 refine zT hm (cx:=[c_reff.gc]) [] (xl:=X_snd0) (α:=AuE4) (fun x=>x) (fun(_,_,_,_,i,els,_)=>(els.length - i).toNat) (fun _=>rfl) (by kernel_rfl) (by kernel_rfl) ?_ (by kernel_rfl) trivial ?_
 ·intro e S L' h
  unfold X_snd0 at h
  split at h<;>cases h<;>kernel_rfl
 ·rintro⟨tick,press,⟨⟩,out,i,els,envs,need,⟨⟩⟩ hinv Q hQ
  refine zD (B_snd0 tick press out i els envs need) ?_
  obtain⟨h0,h1,h2,h3⟩:=hinv
  rw[jZ (n:=i+1) (by omega) (by omega)]
  unfold O_snd0 at hQ
  dsimp only at hQ
  refine⟨fun c1=>?_,fun c1=>?_⟩
  ·have c1:=dcT c1
   rw[jK ((0,0,0,0):E4) h0 c1,List.map_cons,List.append_cons] at hQ
   refine⟨⟨h0,c1⟩,by simp only[List.length_cons,List.length_nil];omega,⟨⟨by omega,by omega,h2,by simp only[List.length_append,List.length_cons,List.length_nil];omega⟩,by show ((els.length:Int) - (i+1)).toNat<((els.length:Int) - i).toNat;omega⟩,hQ⟩
  ·have key:∀z:List Bool,z=out->Tree.holds Q (.leaf (.exit 0,L_snd0_0.st noU (z,())))->Tree.holds Q (.leaf (.exit 0,L_snd0_0.st noU (out,()))):=fun z hz h=>hz ▸ h
   exact key _ (by rw[jB (dcF c1),List.map_nil,List.append_nil]) hQ
theorem T_sound(h_0:List (Int×V))(h_1:List (List Int))(h_2 tick press:Int):jD (P:=P) [] (zH [(0,R_snd0)]) Tryz.f93 (z_ 0 [.agg (.pair (.sl (.pair tI tV)) (.pair (.sl tIs) tI)),.val tI,.val tI] ((h_0,(h_1,h_2)),tick,press,())) =
 Tree.need (inv_snd0 (tick,press,(),[],0,h_0,h_1,h_2,())) (.leaf (.sl Ty.bool (List.map (fun e=>fI e tick press) (List.drop (Int.toNat 0) h_0)))):=by kernel_rfl
def c_sound:PC P:=PC.of (α:=(List (Int×V)×(List (List Int)×Int))×Int×Int×Unit) 93 [.agg (.pair (.sl (.pair tI tV)) (.pair (.sl tIs) tI)),.val tI,.val tI] (fun x=>x) (fun x=>x) (fun _=>rfl)
 (fun x=>some (x.1.1.length<=1000))
 (fun x=>.sl .bool (xO x.1 x.2.1 x.2.2.1)) (by kernel_rfl) (by
  rintro⟨⟨h_0,⟨h_1,h_2⟩⟩,tick,press,⟨⟩⟩ hp
  refine fn_le hm (by kernel_rfl) (by kernel_rfl) (T_sound h_0 h_1 h_2 tick press) ⟨K_snd0,trivial⟩ (by kernel_rfl) ?_
  try dsimp only at hp
  try dsimp only
  have hp' : h_0.length<=1000:=hp
  exact⟨⟨by decide,by omega,hp',by decide⟩,rfl⟩)
theorem inF_step{f:List Bool}{l:List Int}{i:Int}(h0:0<=i) (h:i<l.length):inF f (l.drop i.toNat)=(f.getD (l.getD i.toNat 0).toNat false&&inF f (l.drop (i+1).toNat)):=by
 unfold inF
 rw[jK (0:Int) h0 h,List.all_cons]
theorem standF_step{f:List Bool}{l:List (List Int)}{i:Int}(h0:0<=i) (h:i<l.length):vU f (l.drop i.toNat) i=if inF f (l.getD i.toNat [])=true then i::vU f (l.drop (i+1).toNat) (i+1) else vU f (l.drop (i+1).toNat) (i+1):=by
 rw[jK ([]:List Int) h0 h,vU]
def flOk(f:List Bool)(envs:List (List Int)):Prop:=envs.length<=1000/\∀q∈envs,gM f.length q
def L_rst2:Lay:={ slots:=[(1,.val (.sl .bool)),(2,.ptr 3046 0),(5,.row 3 tI),(6,.val tI),(7,.val .bool),(8,.val tI)],boxes:=[(3046,[.val (.sl (.pair tI tV)),.val (.sl tIs),.val tI])] }
def L_rst2_0:Lay:={ slots:=[(1,.val (.sl .bool)),(2,.ptr 3046 0),(5,.row 3 tI),(6,.val tI),(7,.val .bool)],boxes:=[(3046,[.val (.sl (.pair tI tV)),.val (.sl tIs),.val tI])] }
def X_rst2:Exit->St->Option Lay
 |.exit 2,_=>some L_rst2_0
 |_,_=>none
abbrev C_rst2:Code:=jH (jI (jH (zJ Tryz.f133) 0)) 2
abbrev AuE1:Type:=List Bool×Unit×List Int×Int×Bool×Int×List (Int×V)×List (List Int)×Int×Unit
theorem B_rst2(f:List Bool)(out:List Int)(i:Int)(is:Bool)(k:Int)(els:List (Int×V))(envs:List (List Int))(need:Int):zF (P:=P) [] (zH []) [] 46 noU (jI C_rst2) L_rst2 X_rst2 (α:=AuE1) (fun x=>x) (fun x=>x) (f,(),out,i,is,k,els,envs,need,()) =
 Tree.need (0<=i/\i<(envs.length:Int)) (.cond (decide (k<(↑(List.length (envs.getD i.toNat [])):Int))) (.cond is (.need (0<=i/\i<(envs.length:Int)) (.need (0<=k/\k<(↑(List.length (envs.getD i.toNat [])):Int)) (.need (0<=List.getD (envs.getD i.toNat []) k.toNat 0/\List.getD (envs.getD i.toNat []) k.toNat 0<(f.length:Int)) (.leaf (Sum.inl (f,(),out,i,List.getD f (Int.toNat (List.getD (envs.getD i.toNat []) k.toNat 0)) false,IntKind.i64.wrap (k+1),els,envs,need,())))))) (.leaf (Sum.inl (f,(),out,i,false,IntKind.i64.wrap (k+1),els,envs,need,())))) (.leaf (Sum.inr (Exit.exit 2,Lay.st L_rst2_0 noU (f,(),out,i,is,els,envs,need,()))))):=by kernel_rfl
def inv_rst2:AuE1->Prop:=fun(f,_,_,i,_,k,_,envs,_)=>flOk f envs/\0<=i/\i<envs.length/\0<=k/\k<=(envs.getD i.toNat []).length
def O_rst2:AuE1->Tree (Exit×St):=fun(f,_,out,i,is,k,els,envs,need,_)=>(.leaf (.exit 2,L_rst2_0.st noU (f,(),out,i,(is&&inF f ((envs.getD i.toNat []).drop k.toNat)),els,envs,need,())))
def R_rst2:jS:=j_ 46 L_rst2 (fun x=>x) inv_rst2 O_rst2
theorem K_rst2:zU P [] 46 none noU C_rst2 R_rst2:=by
 refine zT hm (cx:=[]) [] (xl:=X_rst2) (α:=AuE1) (fun x=>x) (fun(_,_,_,i,_,k,_,envs,_)=>((envs.getD i.toNat []).length - k).toNat) (fun _=>rfl) (by kernel_rfl) (by kernel_rfl) ?_ (by kernel_rfl) trivial ?_
 ·intro e S L' h
  unfold X_rst2 at h
  split at h<;>cases h<;>kernel_rfl
 ·rintro⟨f,⟨⟩,out,i,is,k,els,envs,need,⟨⟩⟩ hinv Q hQ
  refine zD (B_rst2 f out i is k els envs need) ?_
  obtain⟨⟨h0,h1⟩,h2,h3,h4,h5⟩:=hinv
  have hq:=h1 _ (jT (d:=([]:List Int)) (show i.toNat<envs.length by omega))
  have hm:=hq.1
  rw[jZ (n:=k+1) (by omega) (by omega)]
  unfold O_rst2 at hQ
  dsimp only at hQ
  refine⟨⟨h2,h3⟩,fun c1=>?_,fun c1=>?_⟩
  ·have c1:=dcT c1
   have hy:=hq.2 _ (jT (d:=(0:Int)) (show k.toNat<(envs.getD i.toNat []).length by omega))
   have mm:(((envs.getD i.toNat []).length:Int) - (k+1)).toNat<(((envs.getD i.toNat []).length:Int) - k).toNat:=by omega
   rw[inF_step h4 c1] at hQ
   refine⟨fun c2=>⟨⟨h2,h3⟩,⟨h4,c1⟩,hy,⟨⟨⟨h0,h1⟩,h2,h3,by omega,by omega⟩,mm⟩,?_⟩,fun c2=>⟨⟨⟨⟨h0,h1⟩,h2,h3,by omega,by omega⟩,mm⟩,?_⟩⟩
   ·rw[show is=true from c2,Bool.true_and] at hQ
    exact hQ
   ·rw[show is=false from c2,Bool.false_and] at hQ
    show Tree.holds Q (O_rst2 (f,(),out,i,false,k+1,els,envs,need,()))
    unfold O_rst2
    dsimp only
    rw[Bool.false_and]
    exact hQ
  ·rw[jB (dcF c1),show inF f []=true from rfl,Bool.and_true] at hQ
   exact hQ
def L_rst0:Lay:={ slots:=[(1,.val (.sl .bool)),(2,.ptr 3046 0),(5,.row 3 tI),(6,.val tI)],boxes:=[(3046,[.val (.sl (.pair tI tV)),.val (.sl tIs),.val tI])] }
def L_rst0_0:Lay:={ slots:=[(5,.row 3 tI)] }
def X_rst0:Exit->St->Option Lay
 |.exit 0,_=>some L_rst0_0
 |_,_=>none
abbrev C_rst0:Code:=jH (zJ Tryz.f133) 0
abbrev AuE3:Type:=List Bool×Unit×List Int×Int×List (Int×V)×List (List Int)×Int×Unit
theorem B_rst0(f:List Bool)(out:List Int)(i:Int)(els:List (Int×V))(envs:List (List Int))(need:Int):zF (P:=P) [] (zH [(2,R_rst2)]) [] 46 noU (jI C_rst0) L_rst0 X_rst0 (α:=AuE3) (fun x=>x) (fun x=>x) (f,(),out,i,els,envs,need,()) =
 Tree.cond (decide (i<(envs.length:Int))) (.need (inv_rst2 (f,(),out,i,true,0,els,envs,need,())) (.cond (true&&inF f (List.drop (Int.toNat 0) (envs.getD i.toNat []))) (.need ((out.length+List.length [i])*8<=140737488355328) (.leaf (Sum.inl (f,(),out++[i],IntKind.i64.wrap (i+1),els,envs,need,())))) (.leaf (Sum.inl (f,(),out,IntKind.i64.wrap (i+1),els,envs,need,()))))) (.leaf (Sum.inr (Exit.exit 0,Lay.st L_rst0_0 noU (out,())))):=by kernel_rfl
def inv_rst0:AuE3->Prop:=fun(f,_,out,i,_,envs,_)=>flOk f envs/\0<=i/\i<=envs.length/\(out.length:Int)<=i
def O_rst0:AuE3->Tree (Exit×St):=fun(f,_,out,i,_,envs,_)=>(.leaf (.exit 0,L_rst0_0.st noU ((out++vU f (envs.drop i.toNat) i),())))
def R_rst0:jS:=j_ 46 L_rst0 (fun x=>x) inv_rst0 O_rst0
theorem K_rst0:zU P [] 46 none noU C_rst0 R_rst0:=by
 refine zT hm (cx:=[]) [(2,R_rst2)] (xl:=X_rst0) (α:=AuE3) (fun x=>x) (fun(_,_,_,i,_,envs,_)=>(envs.length - i).toNat) (fun _=>rfl) (by kernel_rfl) (by kernel_rfl) ?_ (by kernel_rfl) ⟨K_rst2,trivial⟩ ?_
 ·intro e S L' h
  unfold X_rst0 at h
  split at h<;>cases h<;>kernel_rfl
 ·rintro⟨f,⟨⟩,out,i,els,envs,need,⟨⟩⟩ hinv Q hQ
  refine zD (B_rst0 f out i els envs need) ?_
  obtain⟨⟨h0,h1⟩,h2,h3,h4⟩:=hinv
  rw[jZ (n:=i+1) (by omega) (by omega)]
  unfold O_rst0 at hQ
  dsimp only at hQ
  refine⟨fun c1=>?_,fun c1=>?_⟩
  ·have c1:=dcT c1
   have mm:((envs.length:Int) - (i+1)).toNat<((envs.length:Int) - i).toNat:=by omega
   rw[standF_step h2 c1] at hQ
   refine⟨⟨⟨h0,h1⟩,h2,c1,by decide,by omega⟩,fun c2=>⟨by simp only[List.length_cons,List.length_nil];omega,?_⟩,fun c2=>?_⟩
   ·have c2:inF f (envs.getD i.toNat [])=true:=c2
    rw[if_pos c2,List.append_cons] at hQ
    exact⟨⟨⟨⟨h0,h1⟩,by omega,by omega,by simp only[List.length_append,List.length_cons,List.length_nil];omega⟩,mm⟩,hQ⟩
   ·have c2:inF f (envs.getD i.toNat [])=false:=c2
    rw[if_neg (by rw[c2];simp)] at hQ
    exact⟨⟨⟨⟨h0,h1⟩,by omega,by omega,by omega⟩,mm⟩,hQ⟩
  ·rw[jB (dcF c1),vU,List.append_nil] at hQ
   exact hQ
theorem T_rstanding(h_0:List (Int×V))(h_1:List (List Int))(h_2:Int)(f:List Bool):jD (P:=P) [] (zH [(0,R_rst0)]) Tryz.f133 (z_ 0 [.agg (.pair (.sl (.pair tI tV)) (.pair (.sl tIs) tI)),.val (.sl .bool)] ((h_0,(h_1,h_2)),f,())) =
 Tree.need (inv_rst0 (f,(),[],0,h_0,h_1,h_2,())) (.leaf (.sl (Ty.int IntKind.i64) (vU f (List.drop (Int.toNat 0) h_1) 0))):=by kernel_rfl
def c_rstanding:PC P:=PC.of (α:=(List (Int×V)×(List (List Int)×Int))×List Bool×Unit) 133 [.agg (.pair (.sl (.pair tI tV)) (.pair (.sl tIs) tI)),.val (.sl .bool)] (fun x=>x) (fun x=>x) (fun _=>rfl)
 (fun x=>some (flOk x.2.1 x.1.2.1))
 (fun x=>.sl tI (vU x.2.1 x.1.2.1 0)) (by kernel_rfl) (by
  rintro⟨⟨h_0,⟨h_1,h_2⟩⟩,f,⟨⟩⟩ hp
  refine fn_le hm (by kernel_rfl) (by kernel_rfl) (T_rstanding h_0 h_1 h_2 f) ⟨K_rst0,trivial⟩ (by kernel_rfl) ?_
  try dsimp only at hp
  try dsimp only
  have hp' : flOk f h_1:=hp
  exact⟨⟨hp',by decide,by omega,by decide⟩,rfl⟩)
def comS(a b:List Int):Bool:=a.any fun x=>b.any fun y=>x==y
def L_com2:Lay:={ slots:=[(0,.val tIs),(1,.val tIs),(5,.val tI),(6,.val tI)] }
def L_com2_0:Lay:={ slots:=[(4,.val .bool)] }
def L_com2_1:Lay:={ slots:=[(0,.val tIs),(1,.val tIs),(5,.val tI)] }
def X_com2:Exit->St->Option Lay
 |.ret,_=>some L_com2_0
 |.exit 2,_=>some L_com2_1
 |_,_=>none
abbrev C_com2:Code:=jH (jI (jH (zJ Tryz.f158) 0)) 2
abbrev AuE7:Type:=List Int×List Int×Int×Int×Unit
theorem B_com2(a b:List Int)(i k:Int):zF (P:=P) [] (zH []) [] 28 noU (jI C_com2) L_com2 X_com2 (α:=AuE7) (fun x=>x) (fun x=>x) (a,b,i,k,()) =
 Tree.cond (decide (k<(b.length:Int))) (.need (0<=i/\i<(a.length:Int)) (.need (0<=k/\k<(b.length:Int)) (.cond (a.getD i.toNat 0==b.getD k.toNat 0) (.leaf (Sum.inr (Exit.ret,Lay.st L_com2_0 noU (true,())))) (.leaf (Sum.inl (a,b,i,IntKind.i64.wrap (k+1),())))))) (.leaf (Sum.inr (Exit.exit 2,Lay.st L_com2_1 noU (a,b,i,())))):=by kernel_rfl
def inv_com2:AuE7->Prop:=fun(a,b,i,k,_)=>a.length<=1000/\b.length<=1000/\0<=i/\i<a.length/\0<=k/\k<=b.length
def O_com2:AuE7->Tree (Exit×St):=fun(a,b,i,k,_)=>.cond ((b.drop k.toNat).any fun y=>a.getD i.toNat 0==y) (.leaf (.ret,L_com2_0.st noU ((true),()))) (.leaf (.exit 2,L_com2_1.st noU (a,b,i,())))
def R_com2:jS:=j_ 28 L_com2 (fun x=>x) inv_com2 O_com2
theorem K_com2:zU P [] 28 none noU C_com2 R_com2:=by
 refine zT hm (cx:=[]) [] (xl:=X_com2) (α:=AuE7) (fun x=>x) (fun(_,b,_,k,_)=>(b.length - k).toNat) (fun _=>rfl) (by kernel_rfl) (by kernel_rfl) ?_ (by kernel_rfl) trivial ?_
 ·intro e S L' h
  unfold X_com2 at h
  split at h<;>cases h<;>kernel_rfl
 ·rintro⟨a,b,i,k,⟨⟩⟩ hinv Q hQ
  refine zD (B_com2 a b i k) ?_
  obtain⟨h0,h1,h2,h3,h4,h5⟩:=hinv
  rw[jZ (n:=k+1) (by omega) (by omega)]
  unfold O_com2 at hQ
  dsimp only at hQ
  refine⟨fun c1=>?_,fun c1=>?_⟩
  ·have c1:=dcT c1
   rw[jK (0:Int) h4 c1,List.any_cons] at hQ
   refine⟨⟨h2,h3⟩,⟨h4,c1⟩,fun c2=>?_,fun c2=>?_⟩
   ·exact hQ.1 (by rw[c2,Bool.true_or])
   ·rw[c2,Bool.false_or] at hQ
    exact⟨⟨⟨h0,h1,h2,h3,by omega,by omega⟩,by show ((b.length:Int) - (k+1)).toNat<((b.length:Int) - k).toNat;omega⟩,hQ⟩
  ·rw[jB (dcF c1),List.any_nil] at hQ
   exact hQ.2 rfl
def L_com0:Lay:={ slots:=[(0,.val tIs),(1,.val tIs),(5,.val tI)] }
def L_com0_0:Lay:={ slots:=[(4,.val .bool)] }
def L_com0_1:Lay:={ slots:=[] }
def X_com0:Exit->St->Option Lay
 |.ret,_=>some L_com0_0
 |.exit 0,_=>some L_com0_1
 |_,_=>none
abbrev C_com0:Code:=jH (zJ Tryz.f158) 0
abbrev AuE8:Type:=List Int×List Int×Int×Unit
theorem B_com0(a b:List Int)(i:Int):zF (P:=P) [] (zH [(2,R_com2)]) [] 28 noU (jI C_com0) L_com0 X_com0 (α:=AuE8) (fun x=>x) (fun x=>x) (a,b,i,()) =
 Tree.cond (decide (i<(a.length:Int))) (.need (inv_com2 (a,b,i,0,())) (.cond (List.any (List.drop (Int.toNat 0) b) fun y=>a.getD i.toNat 0==y) (.leaf (Sum.inr (Exit.ret,Lay.st L_com0_0 noU (true,())))) (.leaf (Sum.inl (a,b,IntKind.i64.wrap (i+1),()))))) (.leaf (Sum.inr (Exit.exit 0,Lay.st L_com0_1 noU ()))):=by kernel_rfl
def inv_com0:AuE8->Prop:=fun(a,b,i,_)=>a.length<=1000/\b.length<=1000/\0<=i/\i<=a.length
def O_com0:AuE8->Tree (Exit×St):=fun(a,b,i,_)=>.cond (comS (a.drop i.toNat) b) (.leaf (.ret,L_com0_0.st noU ((true),()))) (.leaf (.exit 0,L_com0_1.st noU ()))
def R_com0:jS:=j_ 28 L_com0 (fun x=>x) inv_com0 O_com0
theorem K_com0:zU P [] 28 none noU C_com0 R_com0:=by
 refine zT hm (cx:=[]) [(2,R_com2)] (xl:=X_com0) (α:=AuE8) (fun x=>x) (fun(a,_,i,_)=>(a.length - i).toNat) (fun _=>rfl) (by kernel_rfl) (by kernel_rfl) ?_ (by kernel_rfl) ⟨K_com2,trivial⟩ ?_
 ·intro e S L' h
  unfold X_com0 at h
  split at h<;>cases h<;>kernel_rfl
 ·rintro⟨a,b,i,⟨⟩⟩ hinv Q hQ
  refine zD (B_com0 a b i) ?_
  obtain⟨h0,h1,h2,h3⟩:=hinv
  rw[jZ (n:=i+1) (by omega) (by omega)]
  unfold O_com0 at hQ
  dsimp only at hQ
  unfold comS at hQ
  refine⟨fun c1=>?_,fun c1=>?_⟩
  ·have c1:=dcT c1
   rw[jK (0:Int) h2 c1,List.any_cons] at hQ
   refine⟨⟨h0,h1,h2,c1,by decide,by omega⟩,fun c2=>?_,fun c2=>?_⟩
   ·have c2:(b.any fun y=>a.getD i.toNat 0==y)=true:=c2
    exact hQ.1 (by rw[c2,Bool.true_or])
   ·have c2:(b.any fun y=>a.getD i.toNat 0==y)=false:=c2
    rw[c2,Bool.false_or] at hQ
    exact⟨⟨⟨h0,h1,by omega,by omega⟩,by show ((a.length:Int) - (i+1)).toNat<((a.length:Int) - i).toNat;omega⟩,hQ⟩
  ·rw[jB (dcF c1),List.any_nil] at hQ
   exact hQ.2 rfl
theorem T_common(a b:List Int):jD (P:=P) [] (zH [(0,R_com0)]) Tryz.f158 (z_ 0 [.val tIs,.val tIs] (a,b,())) =
 Tree.need (inv_com0 (a,b,0,())) (.cond (comS (List.drop (Int.toNat 0) a) b) (.leaf (.bool true)) (.leaf (.bool false))):=by kernel_rfl
def c_common:PC P:=PC.of (α:=List Int×List Int×Unit) 158 [.val tIs,.val tIs] (fun x=>x) (fun x=>x) (fun _=>rfl)
 (fun x=>some (x.1.length<=1000/\x.2.1.length<=1000))
 (fun x=>.bool (comS x.1 x.2.1)) (by kernel_rfl) (by
  rintro⟨a,b,⟨⟩⟩ hp
  refine yK hm (by kernel_rfl) (by kernel_rfl) (T_common a b) ⟨K_com0,trivial⟩ ?_
  try dsimp only at hp
  try dsimp only
  obtain⟨p1,p2⟩:a.length<=1000/\b.length<=1000:=hp
  refine⟨⟨p1,p2,by decide,by omega⟩,fun c=>?_,fun c=>?_⟩
  ·rw[show comS a b=true from c];exact rfl
  ·rw[show comS a b=false from c];exact rfl)
def rpOk(envs:List (List Int))(l:List Int)(so:List Int)(need:Int):Prop :=
 0<=need/\(so.length:Int)+need<=3/\l.length<=1000/\(∀i∈l,0<=i/\i<envs.length)/\(∀i∈so,0<=i/\i<envs.length)/\∀q∈envs,q.length<=1000
theorem prf_zero(envs:List (List Int))(l so:List Int):prf envs l so 0=some so:=by cases l<;>rfl
theorem prf_step{envs:List (List Int)}{l so:List Int}{k:Int}{n:Nat}(h0:0<=k) (h:k<l.length):prf envs (l.drop k.toNat) so (n+1) =
  if (so.all fun j=>disj (yQ envs j) (yQ envs (l.getD k.toNat 0)))=true then orS (prf envs (l.drop (k+1).toNat) (so++[l.getD k.toNat 0]) n) (prf envs (l.drop (k+1).toNat) so (n+1)) else prf envs (l.drop (k+1).toNat) so (n+1):=by
 rw[jK (0:Int) h0 h,prf]
 cases prf envs (l.drop (k+1).toNat) (so++[l.getD k.toNat 0]) n<;>rfl
def L_rprf:Lay:={ slots:=[(0,.agg tHs),(1,.val tIs),(2,.val tI),(3,.val tIs),(4,.val tI)] }
abbrev AuE6:Type:=Hs×List Int×Int×List Int×Int×Unit
def pre_rprf:AuE6->Prop:=fun(h,l,fr,so,need,_)=>rpOk h.2.1 l so need/\0<=fr/\fr<=l.length
def mu_rprf:AuE6->Nat:=fun(_,l,fr,_)=>(l.length - fr).toNat
def out_rprf:AuE6->MOut:=fun(h,l,fr,so,need,_)=>⟨.tup [.sl tI ((prf h.2.1 (l.drop fr.toNat) so need.toNat).getD []),.bool (prf h.2.1 (l.drop fr.toNat) so need.toNat).isSome],[],[]⟩
def H_rprf(n:Nat):Prop:=∀a:AuE6,ndP (some (pre_rprf a/\mu_rprf a<n))->qV P 132 L_rprf ((fun x=>x) a) (out_rprf a)
def r_rprf(n:Nat)(hok:H_rprf n):MC P:=MC.of (α:=AuE6) 132 L_rprf (fun x=>x) (fun x=>x) (fun _=>rfl) (fun a=>some (pre_rprf a/\mu_rprf a<n)) out_rprf (by kernel_rfl) (by kernel_rfl) (by kernel_rfl) hok
def aLL(envs:List (List Int))(so:List Int)(y:Int):Bool:=so.all fun j=>disj (yQ envs j) (yQ envs y)
def L_rprL2:Lay:={ slots:=[(1,.val tIs),(3,.val tIs),(4,.val tI),(5,.ptr 6077 0),(12,.val tI),(13,.val .bool),(14,.val tI)],boxes:=[(6077,[.val tEls,.val gR,.val tI])] }
def L_rprL2_0:Lay:={ slots:=[(1,.val tIs),(3,.val tIs),(4,.val tI),(5,.ptr 6077 0),(12,.val tI),(13,.val .bool)],boxes:=[(6077,[.val tEls,.val gR,.val tI])] }
def X_rprL2:Exit->St->Option Lay
 |.exit 2,_=>some L_rprL2_0
 |_,_=>none
abbrev C_rprL2:Code:=jH (jI (jH (zJ Tryz.f132) 0)) 2
abbrev AuE2:Type:=List Int×List Int×Int×Unit×Int×Bool×Int×List E4×List (List Int)×Int×Unit
theorem B_rprL2(l so:List Int)(need i:Int)(is:Bool)(k:Int)(els:List E4)(envs:List (List Int))(nd:Int):zF (P:=P) [c_common.gc] (zH []) [] 77 noU (jI C_rprL2) L_rprL2 X_rprL2 (α:=AuE2) (fun x=>x) (fun x=>x) (l,so,need,(),i,is,k,els,envs,nd,()) =
 Tree.cond (decide (k<(so.length:Int))) (.cond is (.need (0<=k/\k<(so.length:Int)) (.need (0<=so.getD k.toNat 0/\so.getD k.toNat 0<(envs.length:Int)) (.need (0<=i/\i<(l.length:Int)) (.need (0<=l.getD i.toNat 0/\l.getD i.toNat 0<(envs.length:Int)) (.need (List.length (List.getD envs (Int.toNat (so.getD k.toNat 0)) [])<=1000/\List.length (List.getD envs (Int.toNat (l.getD i.toNat 0)) [])<=1000) (.leaf (Sum.inl (l,so,need,(),i,!comS (List.getD envs (Int.toNat (so.getD k.toNat 0)) []) (List.getD envs (Int.toNat (l.getD i.toNat 0)) []),IntKind.i64.wrap (k+1),els,envs,nd,())))))))) (.leaf (Sum.inl (l,so,need,(),i,false,IntKind.i64.wrap (k+1),els,envs,nd,())))) (.leaf (Sum.inr (Exit.exit 2,Lay.st L_rprL2_0 noU (l,so,need,(),i,is,els,envs,nd,())))):=by kernel_rfl
def inv_rprL2:AuE2->Prop:=fun(l,so,need,_,i,_,k,_,envs,_)=>rpOk envs l so need/\0<=i/\i<l.length/\0<=k/\k<=so.length
def O_rprL2:AuE2->Tree (Exit×St):=fun(l,so,need,_,i,is,k,els,envs,nd,_)=>.leaf (.exit 2,L_rprL2_0.st noU (l,so,need,(),i,is&&aLL envs (so.drop k.toNat) (l.getD i.toNat 0),els,envs,nd,()))
def R_rprL2:jS:=j_ 77 L_rprL2 (fun x=>x) inv_rprL2 O_rprL2
theorem K_rprL2:zU P [] 77 none noU C_rprL2 R_rprL2:=by
 refine zT hm (cx:=[c_common.gc]) [] (xl:=X_rprL2) (α:=AuE2) (fun x=>x) (fun(_,so,_,_,_,_,k,_)=>(so.length - k).toNat) (fun _=>rfl) (by kernel_rfl) (by kernel_rfl) ?_ (by kernel_rfl) trivial ?_
 ·intro e S L' h
  unfold X_rprL2 at h
  split at h<;>cases h<;>kernel_rfl
 ·rintro⟨l,so,need,⟨⟩,i,is,k,els,envs,nd,⟨⟩⟩ hinv Q hQ
  refine zD (B_rprL2 l so need i is k els envs nd) ?_
  obtain⟨⟨p1,p2,p3,p4,p5,p6⟩,h1,h2,h3,h4⟩:=hinv
  rw[jZ (n:=k+1) (by omega) (by omega)]
  unfold O_rprL2 at hQ
  dsimp only at hQ
  refine⟨fun c1=>?_,fun c1=>?_⟩
  ·have c1:=dcT c1
   have mm:((so.length:Int) - (k+1)).toNat<((so.length:Int) - k).toNat:=by omega
   have hs:=p5 _ (jT (d:=(0:Int)) (show k.toNat<so.length by omega))
   have hl:=p4 _ (jT (d:=(0:Int)) (show i.toNat<l.length by omega))
   have es:aLL envs (so.drop k.toNat) (l.getD i.toNat 0)=(disj (yQ envs (so.getD k.toNat 0)) (yQ envs (l.getD i.toNat 0))&&aLL envs (so.drop (k+1).toNat) (l.getD i.toNat 0)):=by
    unfold aLL
    rw[jK (0:Int) h3 c1,List.all_cons]
   rw[es] at hQ
   refine⟨fun c2=>⟨⟨h3,c1⟩,hs,⟨h1,h2⟩,hl,⟨p6 _ (jT (by omega)),p6 _ (jT (by omega))⟩,⟨⟨⟨p1,p2,p3,p4,p5,p6⟩,h1,h2,by omega,by omega⟩,mm⟩,?_⟩,fun c2=>⟨⟨⟨⟨p1,p2,p3,p4,p5,p6⟩,h1,h2,by omega,by omega⟩,mm⟩,?_⟩⟩
   ·rw[show is=true from c2,Bool.true_and] at hQ
    exact hQ
   ·rw[show is=false from c2,Bool.false_and] at hQ
    show Tree.holds Q (O_rprL2 (l,so,need,(),i,false,k+1,els,envs,nd,()))
    unfold O_rprL2
    dsimp only
    rw[Bool.false_and]
    exact hQ
  ·rw[jB (dcF c1),show aLL envs [] (l.getD i.toNat 0)=true from rfl,Bool.and_true] at hQ
   exact hQ
def L_rprL0:Lay:={ slots:=[(1,.val tIs),(3,.val tIs),(4,.val tI),(5,.ptr 6077 0),(12,.val tI)],boxes:=[(6077,[.val tEls,.val gR,.val tI])] }
def L_rprL0_0:Lay:={ slots:=[(10,.val tIs),(11,.val .bool)] }
def L_rprL0_1:Lay:={ slots:=[] }
def X_rprL0:Exit->St->Option Lay
 |.ret,_=>some L_rprL0_0
 |.exit 0,_=>some L_rprL0_1
 |_,_=>none
abbrev C_rprL0:Code:=jH (zJ Tryz.f132) 0
abbrev AuE5:Type:=List Int×List Int×Int×Unit×Int×List E4×List (List Int)×Int×Unit
theorem B_rprL0(n:Nat)(hok:H_rprf n)(l so:List Int)(need i:Int)(els:List E4)(envs:List (List Int))(nd:Int):zF (P:=P) [(r_rprf n hok).gc] (zH [(2,R_rprL2)]) [] 77 noU (jI C_rprL0) L_rprL0 X_rprL0 (α:=AuE5) (fun x=>x) (fun x=>x) (l,so,need,(),i,els,envs,nd,()) =
 Tree.cond (decide (i<(l.length:Int))) (.need (inv_rprL2 (l,so,need,(),i,true,0,els,envs,nd,())) (.cond (!(true&&aLL envs (List.drop (Int.toNat 0) so) (l.getD i.toNat 0))) (.leaf (Sum.inl (l,so,need,(),IntKind.i64.wrap (i+1),els,envs,nd,()))) (.need ((0+so.length)*8<=140737488355328) (.need (0<=i/\i<(l.length:Int)) (.need ((so.length+List.length [l.getD i.toNat 0])*8<=140737488355328) (.need (pre_rprf ((els,envs,nd),l,IntKind.i64.wrap (i+1),so++[l.getD i.toNat 0],IntKind.i64.wrap (need - 1),())/\mu_rprf ((els,envs,nd),l,IntKind.i64.wrap (i+1),so++[l.getD i.toNat 0],IntKind.i64.wrap (need - 1),())<n) (.cond (Option.isSome (prf envs (List.drop (Int.toNat (IntKind.i64.wrap (i+1))) l) (so++[l.getD i.toNat 0]) (Int.toNat (IntKind.i64.wrap (need - 1))))) (.leaf (Sum.inr (Exit.ret,Lay.st L_rprL0_0 noU (Option.getD (prf envs (List.drop (Int.toNat (IntKind.i64.wrap (i+1))) l) (so++[l.getD i.toNat 0]) (Int.toNat (IntKind.i64.wrap (need - 1)))) [],true,())))) (.leaf (Sum.inl (l,so,need,(),IntKind.i64.wrap (i+1),els,envs,nd,())))))))))) (.leaf (Sum.inr (Exit.exit 0,Lay.st L_rprL0_1 noU ()))):=by kernel_rfl
def inv_rprL0(n:Nat)(hok:H_rprf n):AuE5->Prop:=fun(l,so,need,_,i,_,envs,_)=>rpOk envs l so need/\0<=i/\i<=l.length/\0<need/\(l.length - i).toNat<=n
def O_rprL0(n:Nat)(hok:H_rprf n):AuE5->Tree (Exit×St):=fun(l,so,need,_,i,_,envs,_)=>.cond (prf envs (l.drop i.toNat) so need.toNat).isSome (.leaf (.ret,L_rprL0_0.st noU ((prf envs (l.drop i.toNat) so need.toNat).getD [],true,()))) (.leaf (.exit 0,L_rprL0_1.st noU ()))
def R_rprL0(n:Nat)(hok:H_rprf n):jS:=j_ 77 L_rprL0 (fun x=>x) (inv_rprL0 n hok) (O_rprL0 n hok)
theorem K_rprL0(n:Nat)(hok:H_rprf n):zU P [] 77 none noU C_rprL0 (R_rprL0 n hok):=by
 refine zT hm (cx:=[(r_rprf n hok).gc]) [(2,R_rprL2)] (xl:=X_rprL0) (α:=AuE5) (fun x=>x) (fun(l,_,_,_,i,_)=>(l.length - i).toNat) (fun _=>rfl) (by kernel_rfl) (by kernel_rfl) ?_ (by kernel_rfl) ⟨K_rprL2,trivial⟩ ?_
 ·intro e S L' h
  unfold X_rprL0 at h
  split at h<;>cases h<;>kernel_rfl
 ·rintro⟨l,so,need,⟨⟩,i,els,envs,nd,⟨⟩⟩ hinv Q hQ
  refine zD (B_rprL0 n hok l so need i els envs nd) ?_
  obtain⟨⟨p1,p2,p3,p4,p5,p6⟩,h1,h2,h3,h4⟩:=hinv
  rw[jZ (n:=i+1) (by omega) (by omega),jZ (n:=need - 1) (by omega) (by omega)]
  unfold O_rprL0 at hQ
  dsimp only at hQ
  obtain⟨m,hm⟩:∃m:Nat,need.toNat=m+1:=⟨need.toNat - 1,by omega⟩
  refine⟨fun c1=>?_,fun c1=>?_⟩
  ·have c1:=dcT c1
   have mm:((l.length:Int) - (i+1)).toNat<((l.length:Int) - i).toNat:=by omega
   have hl:=p4 _ (jT (d:=(0:Int)) (show i.toNat<l.length by omega))
   rw[hm,prf_step h1 c1,<- hm] at hQ
   rw[show (need - 1).toNat=m by omega]
   have ea:(true&&aLL envs (List.drop (Int.toNat 0) so) (l.getD i.toNat 0))=(so.all fun j=>disj (yQ envs j) (yQ envs (l.getD i.toNat 0))):=Bool.true_and _
   rw[ea]
   refine⟨⟨⟨p1,p2,p3,p4,p5,p6⟩,h1,c1,by decide,by omega⟩,fun c2=>?_,fun c2=>⟨by omega,⟨h1,c1⟩,by simp only[List.length_cons,List.length_nil];omega,⟨⟨⟨by omega,by rw[List.length_append,List.length_singleton];omega,p3,p4,fun j hj=>?_,p6⟩,by omega,by omega⟩,?_⟩,fun c3=>?_,fun c3=>?_⟩⟩
   ·have c2:(so.all fun j=>disj (yQ envs j) (yQ envs (l.getD i.toNat 0)))=false:=by rw[Bool.not_eq_true'] at c2;exact c2
    rw[if_neg (by rw[c2];simp)] at hQ
    exact⟨⟨⟨⟨p1,p2,p3,p4,p5,p6⟩,by omega,by omega,h3,by omega⟩,mm⟩,hQ⟩
   ·rcases List.mem_append.1 hj with h |h
    ·exact p5 j h
    ·rw[List.mem_singleton] at h;rw[h];exact hl
   ·show ((l.length:Int) - (i+1)).toNat<n
    omega
   all_goals
    have c2:(so.all fun j=>disj (yQ envs j) (yQ envs (l.getD i.toNat 0)))=true:=by rw[Bool.not_eq_false'] at c2;exact c2
    rw[if_pos c2] at hQ
   ·cases hr:prf envs (l.drop (i+1).toNat) (so++[l.getD i.toNat 0]) m with
    |none=>rw[hr] at c3;cases c3
    |some x=>
     rw[hr] at hQ
     exact hQ.1 rfl
   ·cases hr:prf envs (l.drop (i+1).toNat) (so++[l.getD i.toNat 0]) m with
    |some x=>rw[hr] at c3;cases c3
    |none=>
     rw[hr] at hQ
     exact⟨⟨⟨⟨p1,p2,p3,p4,p5,p6⟩,by omega,by omega,h3,by omega⟩,mm⟩,hQ⟩
  ·rw[jB (dcF c1),hm] at hQ
   exact hQ.2 rfl
theorem T_rprf(n:Nat)(hok:H_rprf n)(els:List E4)(envs:List (List Int))(nd:Int)(l:List Int)(fr:Int)(so:List Int)(need:Int):jG (P:=P) [] (zH [(0,R_rprL0 n hok)]) Tryz.f132 L_rprf true ((els,(envs,nd)),l,fr,so,need,()) =
 Tree.cond (need==0) (.leaf { res:=.tup [.sl tI so,.bool true],boxes:=[] }) (.need (inv_rprL0 n hok (l,so,need,(),fr,els,envs,nd,())) (.cond (Option.isSome (prf envs (List.drop fr.toNat l) so need.toNat)) (.leaf { res:=.tup [.sl tI (Option.getD (prf envs (List.drop fr.toNat l) so need.toNat) []),.bool true],boxes:=[] }) (.leaf { res:=.tup [.nils,.bool false],boxes:=[] }))):=by kernel_rfl
theorem M_rprf:∀n,H_rprf n:=by
 intro n
 induction n with
 |zero=>exact fun a h=>absurd h.2 (Nat.not_lt_zero _)
 |succ n hok=>
  rintro⟨⟨els,⟨envs,nd⟩⟩,l,fr,so,need,⟨⟩⟩ hp
  refine m_le hm (own:=true) (by kernel_rfl) (by kernel_rfl) (by kernel_rfl) (T_rprf n hok els envs nd l fr so need) ⟨K_rprL0 n hok,trivial⟩ ?_
  obtain⟨⟨h0,h1,h2⟩,h3⟩:=hp
  obtain⟨p1,p2,p3,p4,p5,p6⟩:=h0
  have h3' : ((l.length:Int) - fr).toNat<n+1:=h3
  have fin:∀(sv:SV)(b:Bool),LeS sv (.sl tI ((prf envs (l.drop fr.toNat) so need.toNat).getD []))->b=(prf envs (l.drop fr.toNat) so need.toNat).isSome->(fun s:MOut=>LeS s.res (out_rprf ((els,(envs,nd)),l,fr,so,need,())).res/\s.boxes=(out_rprf ((els,(envs,nd)),l,fr,so,need,())).boxes/\s.news=(out_rprf ((els,(envs,nd)),l,fr,so,need,())).news) ⟨SV.tup [sv,SV.bool b],[],[]⟩:=fun sv b h hb=>by
   refine⟨?_,rfl,rfl⟩
   show LeS (SV.tup [sv,SV.bool b]) (SV.tup [.sl tI ((prf envs (l.drop fr.toNat) so need.toNat).getD []),.bool (prf envs (l.drop fr.toNat) so need.toNat).isSome])
   rw[hb]
   exact⟨h,rfl,trivial⟩
  refine⟨fun c1=>?_,fun c1=>⟨⟨⟨p1,p2,p3,p4,p5,p6⟩,h1,h2,?_,by omega⟩,fun c2=>?_,fun c2=>?_⟩⟩
  ·have c1:need=0:=by simpa using c1
   subst c1
   exact fin _ _ (by rw[show (0:Int).toNat=0 from rfl,prf_zero];exact rfl) (by rw[show (0:Int).toNat=0 from rfl,prf_zero];rfl)
  ·have c1:¬ need=0:=by simpa using c1
   omega
  ·exact fin _ _ rfl (Eq.symm c2)
  ·refine fin _ _ ?_ (Eq.symm c2)
   cases hr:prf envs (l.drop fr.toNat) so need.toNat with
   |some x=>rw[hr] at c2;cases c2
   |none=>exact rfl
def c_rprf:MC P:=MC.of (α:=AuE6) 132 L_rprf (fun x=>x) (fun x=>x) (fun _=>rfl) (fun a=>some (pre_rprf a)) out_rprf (by kernel_rfl) (by kernel_rfl) (by kernel_rfl) (fun a h=>M_rprf (mu_rprf a+1) a ⟨h,Nat.lt_succ_self _⟩)
theorem standF_ok(f:List Bool):∀(l:List (List Int))(i:Int),0<=i->(vU f l i).length<=l.length/\∀k∈vU f l i,i<=k/\k<i+l.length
 | [],i,_=>⟨Nat.le_refl _,fun k hk=>(by cases hk)⟩
 |x::l,i,h=>by
  obtain⟨h1,h2⟩:=standF_ok f l (i+1) (by omega)
  rw[vU]
  split
  ·refine⟨by simp only[List.length_cons];omega,fun k hk=>?_⟩
   rw[List.length_cons]
   rcases List.mem_cons.1 hk with rfl |hk
   ·omega
   ·have:=h2 k hk;omega
  ·refine⟨by simp only[List.length_cons];omega,fun k hk=>?_⟩
   rw[List.length_cons]
   have:=h2 k hk;omega
theorem HOk.flags{h:Hs}(k:HOk h) (tick press:Int):flOk (xO h tick press) h.2.1:=by
 refine⟨by have:=k.v8;omega,fun q hq=>?_⟩
 obtain⟨_,h2,h3⟩:=k.ev q hq
 exact⟨by omega,fun i hi=>by unfold xO;rw[List.length_map];exact h3 i hi⟩
theorem HOk.rp{h:Hs}(k:HOk h) (f:List Bool):rpOk h.2.1 (vU f h.2.1 0) [] h.2.2:=by
 obtain⟨q1,q2⟩:=standF_ok f h.2.1 0 (by decide)
 have v8:=k.v8
 have nd:=k.nd
 exact⟨by omega,by show ((0:Nat):Int)+_<=3;omega,by omega,fun i hi=>by have:=q2 i hi;omega,fun i hi=>(by cases hi),fun q hq=>by have:=(k.ev q hq).2.1;omega⟩
theorem T_rholds(h_0:List (Int×V))(h_1:List (List Int))(h_2:Int)(f:List Bool):jD (P:=P) [c_rstanding.gc,c_rprf.gc] (zH []) Tryz.f98 (z_ 0 [.agg (.pair (.sl (.pair tI tV)) (.pair (.sl tIs) tI)),.val (.sl .bool)] ((h_0,(h_1,h_2)),f,())) =
 Tree.need (flOk f h_1) (.need (pre_rprf ((h_0,h_1,h_2),vU f h_1 0,(0:Int),[],h_2,())) (.leaf (.bool (Option.isSome (prf h_1 (List.drop (Int.toNat 0) (vU f h_1 0)) [] h_2.toNat))))):=by kernel_rfl
def c_rholds:PC P:=PC.of (α:=(List (Int×V)×(List (List Int)×Int))×List Bool×Unit) 98 [.agg (.pair (.sl (.pair tI tV)) (.pair (.sl tIs) tI)),.val (.sl .bool)] (fun x=>x) (fun x=>x) (fun _=>rfl)
 (fun x=>some (zB x.1=0/\flOk x.2.1 x.1.2.1))
 (fun x=>.bool (proofF x.1 x.2.1).isSome) (by kernel_rfl) (by
  rintro⟨⟨h_0,⟨h_1,h_2⟩⟩,f,⟨⟩⟩ hp
  refine yK hm (by kernel_rfl) (by kernel_rfl) (T_rholds h_0 h_1 h_2 f) trivial ?_
  try dsimp only at hp
  try dsimp only
  obtain⟨p1,p2⟩:zB (h_0,(h_1,h_2))=0/\flOk f h_1:=hp
  have k:=yD p1
  exact⟨p2,⟨k.rp f,by decide,by omega⟩,rfl⟩)
theorem T_rHolds(h_0:List (Int×V))(h_1:List (List Int))(h_2 tick press:Int):jD (P:=P) [c_sound.gc,c_rholds.gc] (zH []) Tryz.f49 (z_ 0 [.agg (.pair (.sl (.pair tI tV)) (.pair (.sl tIs) tI)),.val tI,.val tI] ((h_0,(h_1,h_2)),tick,press,())) =
 Tree.need (h_0.length<=1000) (.need (zB (h_0,h_1,h_2)=0/\flOk (xO (h_0,h_1,h_2) tick press) h_1) (.leaf (.bool (Option.isSome (proofF (h_0,h_1,h_2) (xO (h_0,h_1,h_2) tick press)))))):=by kernel_rfl
def c_rHolds:PC P:=PC.of (α:=(List (Int×V)×(List (List Int)×Int))×Int×Int×Unit) 49 [.agg (.pair (.sl (.pair tI tV)) (.pair (.sl tIs) tI)),.val tI,.val tI] (fun x=>x) (fun x=>x) (fun _=>rfl)
 (fun x=>some (zB x.1=0))
 (fun x=>.bool (zQ x.1 x.2.1 x.2.2.1)) (by kernel_rfl) (by
  rintro⟨⟨h_0,⟨h_1,h_2⟩⟩,tick,press,⟨⟩⟩ hp
  refine yK hm (by kernel_rfl) (by kernel_rfl) (T_rHolds h_0 h_1 h_2 tick press) trivial ?_
  try dsimp only at hp
  try dsimp only
  have hp' : zB (h_0,(h_1,h_2))=0:=hp
  have k:=yD hp'
  have:=k.e10
  dsimp only at this
  exact⟨by omega,⟨hp',k.flags tick press⟩,rfl⟩)
end
end Go.MB
