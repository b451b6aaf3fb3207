/- Logs: the log of a site and entries, as the program writes it. -/
import Derived.Test.YtfhomgggbhjglaaGreatMeC
namespace Go.MB
open Go Go.Sx Go.Proofs
set_option linter.unusedVariables false
set_option linter.unusedSimpArgs false
noncomputable section
abbrev tB:Ty:=.int .u8
def c_flagB:GC P where
 f:=2
 con:=fun args _ _=>match args with
  | [.nils]=>some { need:=some False,res:=.any }
  |_=>none
 ent:=by kernel_rfl
 ok:=by
  intro args H base eff h E U w vals _ _ _ hn
  dsimp only at h
  split at h
  ·cases h;exact hn.elim
  ·cases h
def byA(n:Int):Nat->Int->List Int
 |0,_=>[]
 |m+1,i=>IntKind.wrap .u8 (shrI .u64 (IntKind.wrap .u64 n) i)::byA n m (i - 8)
def bysN:List Int->List Int
 | []=>[]
 |n::r=>byA n 8 56++bysN r
theorem byA_len(n:Int):∀(m:Nat)(i:Int),(byA n m i).length=m
 |0,_=>rfl
 |m+1,i=>by rw[byA,List.length_cons,byA_len n m]
theorem bysN_len:∀l:List Int,(bysN l).length=8*l.length
 | []=>rfl
 |n::r=>by rw[bysN,List.length_append,byA_len,bysN_len r,List.length_cons];omega
theorem U64_id{n:Int}(h0:0<=n) (h1:n<18446744073709551616):IntKind.u64.wrap n=n:=by rw[IntKind.wrap_u64];omega
def L_lgi:Lay:={ slots:=[(7,.row 5 tB),(9,.val tI),(10,.val tI),(23,.val tIs),(24,.val tI),(25,.val tI)] }
def L_lgi_0:Lay:={ slots:=[(7,.row 5 tB),(23,.val tIs),(24,.val tI),(25,.val tI)] }
def X_lgi:Exit->St->Option Lay
 |.exit 2,_=>some L_lgi_0
 |_,_=>none
abbrev C_lgi:Code:=zQ (zN (zQ (zJ Tryz.f26) 0)) 2
abbrev AeD1:Type:=List Int×Int×Int×List Int×Int×Int×Unit
theorem B_lgi(b:List Int)(n i:Int)(l:List Int)(m k:Int):zG (P:=P) [] (zI []) [] 45 noU (zN C_lgi) L_lgi X_lgi (α:=AeD1) (fun x=>x) (fun x=>x) (b,n,i,l,m,k,()) =
 Tree.cond (decide (i>=0)) (.need (0<=IntKind.u64.wrap i) (.need ((b.length+List.length [IntKind.wrap IntKind.u8 (shrI IntKind.u64 (IntKind.u64.wrap n) (IntKind.u64.wrap i))])*1<=140737488355328) (.leaf (Sum.inl (b++[IntKind.wrap IntKind.u8 (shrI IntKind.u64 (IntKind.u64.wrap n) (IntKind.u64.wrap i))],n,IntKind.i64.wrap (i - 8),l,m,k,()))))) (.leaf (Sum.inr (Exit.exit 2,Lay.st L_lgi_0 noU (b,l,m,k,())))):=by kernel_rfl
def inv_lgi:AeD1->Prop:=fun(b,_,i,_)=>(-8<=i/\i<=56)/\(b.length:Int)<=100000000000 - i
def O_lgi:AeD1->Tree (Exit×St):=fun(b,n,i,l,m,k,_)=>.leaf (.exit 2,L_lgi_0.st noU (b++byA n ((i+8) / 8).toNat i,l,m,k,()))
def R_lgi:jA:=zY 45 L_lgi (fun x=>x) inv_lgi O_lgi
def M_lgi:AeD1->Nat:=fun(_,_,i,_)=>(i+8).toNat
theorem H_lgi:∀a,inv_lgi a->∀Q,(O_lgi a).holds Q->Hold (roundB inv_lgi M_lgi O_lgi Q a) (zG (P:=P) [] (zI []) [] 45 noU (zN C_lgi) L_lgi X_lgi (α:=AeD1) (fun x=>x) (fun x=>x) a):=by
 ·rintro⟨b,n,i,l,m,k,⟨⟩⟩ hinv Q hQ
  refine zF (B_lgi b n i l m k) ?_
  obtain⟨⟨h0,h1⟩,h2⟩:=hinv
  rw[jK (n:=i - 8) (by omega) (by omega)]
  unfold O_lgi at hQ
  dsimp only at hQ
  refine⟨fun c1=>?_,fun c1=>?_⟩
  ·have c1:=dcT c1
   rw[U64_id (n:=i) (by omega) (by omega)]
   rw[show ((i+8) / 8).toNat=((i - 8+8) / 8).toNat+1 from by omega,byA,List.append_cons] at hQ
   exact⟨by omega,by simp only[List.length_cons,List.length_nil];omega,⟨⟨by omega,by simp only[List.length_append,List.length_cons,List.length_nil];omega⟩,by show (i - 8+8).toNat<(i+8).toNat;omega⟩,hQ⟩
  ·have c1:=dcF c1
   rw[show ((i+8) / 8).toNat=0 from by omega,byA,List.append_nil] at hQ
   exact hQ
theorem Y_lgi:∀e S L',X_lgi e S=some L'->L'.ok noU=true:=by
 ·intro e S L' h
  unfold X_lgi at h
  split at h<;>cases h<;>kernel_rfl
theorem K_lgi:zL P [] 45 none noU C_lgi R_lgi:=by
 refine zM hm (cx:=[]) [] (xl:=X_lgi) (α:=AeD1) (fun x=>x) M_lgi (fun _=>rfl) (by kernel_rfl) (by kernel_rfl) ?_ (by kernel_rfl) trivial ?_
 ·exact Y_lgi
 ·exact H_lgi
def L_lgo:Lay:={ slots:=[(7,.row 5 tB),(23,.val tIs),(24,.val tI),(25,.val tI)] }
def L_lgo_0:Lay:={ slots:=[(7,.row 5 tB)] }
def X_lgo:Exit->St->Option Lay
 |.exit 0,_=>some L_lgo_0
 |_,_=>none
abbrev C_lgo:Code:=zQ (zJ Tryz.f26) 0
abbrev AeD2:Type:=List Int×List Int×Int×Int×Unit
theorem B_lgo(b:List Int)(l:List Int)(m k:Int):zG (P:=P) [] (zI [(2,R_lgi)]) [] 45 noU (zN C_lgo) L_lgo X_lgo (α:=AeD2) (fun x=>x) (fun x=>x) (b,l,m,k,()) =
 Tree.cond (decide (k<m)) (.need (0<=k/\k<(l.length:Int)) (.need (inv_lgi (b,l.getD k.toNat 0,56,l,m,k,())) (.leaf (Sum.inl (b++byA (l.getD k.toNat 0) (Int.toNat (((56:Int)+8) / 8)) 56,l,m,IntKind.i64.wrap (k+1),()))))) (.leaf (Sum.inr (Exit.exit 0,Lay.st L_lgo_0 noU (b,())))):=by kernel_rfl
def inv_lgo:AeD2->Prop:=fun(b,l,m,k,_)=>m=l.length/\0<=k/\k<=m/\l.length<=100000000/\(b.length:Int)<=100+8*k
def O_lgo:AeD2->Tree (Exit×St):=fun(b,l,_,k,_)=>.leaf (.exit 0,L_lgo_0.st noU (b++bysN (l.drop k.toNat),()))
def M_lgo:AeD2->Nat:=fun(_,_,m,k,_)=>(m - k).toNat
theorem H_lgo:∀a,inv_lgo a->∀Q,(O_lgo a).holds Q->Hold (roundB inv_lgo M_lgo O_lgo Q a) (zG (P:=P) [] (zI [(2,R_lgi)]) [] 45 noU (zN C_lgo) L_lgo X_lgo (α:=AeD2) (fun x=>x) (fun x=>x) a):=by
 ·rintro⟨b,l,m,k,⟨⟩⟩ hinv Q hQ
  refine zF (B_lgo b l m k) ?_
  obtain⟨rfl,h0,h1,h2,h3⟩:=hinv
  rw[jK (n:=k+1) (by omega) (by omega),show (Int.toNat (((56:Int)+8) / (8:Int)))=8 from rfl]
  unfold O_lgo at hQ
  dsimp only at hQ
  refine⟨fun c1=>?_,fun c1=>?_⟩
  ·have c1:=dcT c1
   rw[zS (0:Int) h0 c1,bysN,<- List.append_assoc] at hQ
   exact⟨⟨h0,c1⟩,⟨⟨by decide,by decide⟩,by omega⟩,⟨⟨rfl,by omega,by omega,h2,by rw[List.length_append,byA_len];omega⟩,by show ((l.length:Int) - (k+1)).toNat<((l.length:Int) - k).toNat;omega⟩,hQ⟩
  ·rw[zR (dcF c1),bysN,List.append_nil] at hQ
   exact hQ
theorem Y_lgo:∀e S L',X_lgo e S=some L'->L'.ok noU=true:=by
 ·intro e S L' h
  unfold X_lgo at h
  split at h<;>cases h<;>kernel_rfl
abbrev C_lgiP:Code:=C_lgi
def R_lgiP:jA:=peelRun (P:=P) [] (zI []) [] 45 (zN C_lgiP) L_lgi (α:=AeD1) (fun x=>x) inv_lgi O_lgi
theorem K_lgiP:zL P [] 45 none noU C_lgiP R_lgiP:=by
 unfold R_lgiP
 refine peel_of (L:=L_lgi) (c:=C_lgi) (ys:=[]) (n:=45) (r0:=none) (u0:=noU) hm (cx:=[]) (cx1:=[]) [] [] (xl:=X_lgi) (α:=AeD1) (to:=fun x=>x) (fun x=>x) (inv:=inv_lgi) M_lgi (out:=O_lgi) (fun _=>rfl) (by kernel_rfl) (by kernel_rfl) ?_ (by kernel_rfl) trivial trivial ?_
 ·exact Y_lgi
 ·exact H_lgi
abbrev C_lgoP:Code:=C_lgo
def R_lgoP:jA:=peelRun (P:=P) [] (zI [(2,R_lgiP)]) [] 45 (zN C_lgoP) L_lgo (α:=AeD2) (fun x=>x) inv_lgo O_lgo
theorem K_lgoP:zL P [] 45 none noU C_lgoP R_lgoP:=by
 unfold R_lgoP
 refine peel_of (L:=L_lgo) (c:=C_lgo) (ys:=[]) (n:=45) (r0:=none) (u0:=noU) hm (cx:=[]) (cx1:=[]) [(2,R_lgi)] [(2,R_lgiP)] (xl:=X_lgo) (α:=AeD2) (to:=fun x=>x) (fun x=>x) (inv:=inv_lgo) M_lgo (out:=O_lgo) (fun _=>rfl) (by kernel_rfl) (by kernel_rfl) ?_ (by kernel_rfl) ⟨K_lgi,trivial⟩ ⟨K_lgiP,trivial⟩ ?_
 ·exact Y_lgo
 ·exact H_lgo
theorem numsS_len(s:zX)(l:List zP)(h:sOk s)(hl:l.length<=1000):0<(numsS s l).length/\(numsS s l).length<=2000000:=by
 obtain⟨⟨p1,p2,p3⟩,p4⟩:=h
 have l1:=elsN_len s.2.2.2.2.2.1.1
 have l2:=envsN_len s.2.2.2.2.2.1.2.1 p3
 have l3:=pmsN_len s.2.2.2.2.2.2.1
 have l4:=ensN_len l
 unfold numsS
 simp only[List.length_append,List.length_cons,List.length_nil]
 omega
theorem bys_first{l:List Int}(h:0<l.length) (x:List Int):x++[IntKind.wrap .u8 (shrI .u64 (IntKind.wrap .u64 (l.getD 0 0)) 56)]++byA (l.getD 0 0) 7 48++bysN (l.drop 1)=x++bysN l:=by
 cases l with
 |nil=>exact absurd h (Nat.lt_irrefl 0)
 |cons n r=>
  show _=x++(byA n 8 56++bysN r)
  rw[byA]
  simp only[List.append_assoc,List.cons_append,List.nil_append]
  rfl
def logS(s:zX)(l:List zP):ByteArray×Int:=if chkS s≠0 then (ByteArray.empty,chkS s) else if 200<l.length then (ByteArray.empty,8) else (strOfNums ([109,112,108,49]++bysN (numsS s l)),0)
def L_Log:Lay:={ slots:=[(0,.agg tSite),(1,.val (.sl tEntry))] }
theorem T_Log(d g j o p:Int)(q:List E4)(t:List (List Int))(u:Int)(v:List Pm)(y:Int)(l:List zP):jF (P:=P) [c_Check.gc,c_numbers.gc,c_flagB] (zI [(0,R_lgoP)]) Tryz.f26 L_Log true ((d,g,j,o,p,(q,t,u),v,y),l,()) =
 Tree.need (sOk (d,g,j,o,p,(q,t,u),v,y)) (.cond (chkS (d,g,j,o,p,(q,t,u),v,y) != 0) (.leaf { res:=.tup [SV.str { data:=#[] },.int .i64 (chkS (d,g,j,o,p,(q,t,u),v,y))],boxes:=[] }) (.cond (decide ((l.length:Int)>200)) (.leaf { res:=.tup [SV.str { data:=#[] },.int .i64 8],boxes:=[] }) (.need (sOk (d,g,j,o,p,(q,t,u),v,y)/\l.length<=1000) (.cond (decide (0<(↑(List.length (numsS (d,g,j,o,p,(q,t,u),v,y) l)):Int))) (.need ((0:Int)<=0/\0<(↑(List.length (numsS (d,g,j,o,p,(q,t,u),v,y) l)):Int)) (.cond true (.need (0<=IntKind.u64.wrap 56) (.need (0<List.length [IntKind.wrap IntKind.u8 (shrI IntKind.u64 (IntKind.u64.wrap (List.getD (numsS (d,g,j,o,p,(q,t,u),v,y) l) (Int.toNat 0) 0)) (IntKind.u64.wrap 56))]/\(List.length [(109:Int),(112:Int),(108:Int),(49:Int)]+List.length [IntKind.wrap IntKind.u8 (shrI IntKind.u64 (IntKind.u64.wrap (List.getD (numsS (d,g,j,o,p,(q,t,u),v,y) l) (Int.toNat 0) 0)) (IntKind.u64.wrap 56))])*1<=140737488355328) (.need (inv_lgi ([(109:Int),112,108,(49:Int)]++[IntKind.wrap IntKind.u8 (shrI IntKind.u64 (IntKind.u64.wrap (List.getD (numsS (d,g,j,o,p,(q,t,u),v,y) l) (Int.toNat 0) 0)) (IntKind.u64.wrap 56))],List.getD (numsS (d,g,j,o,p,(q,t,u),v,y) l) (Int.toNat 0) 0,IntKind.i64.wrap ((56:Int) - 8),numsS (d,g,j,o,p,(q,t,u),v,y) l,(↑(List.length (numsS (d,g,j,o,p,(q,t,u),v,y) l)):Int),0,())) (.need (inv_lgo ([(109:Int),112,108,(49:Int)]++[IntKind.wrap IntKind.u8 (shrI IntKind.u64 (IntKind.u64.wrap (List.getD (numsS (d,g,j,o,p,(q,t,u),v,y) l) (Int.toNat 0) 0)) (IntKind.u64.wrap 56))]++byA (List.getD (numsS (d,g,j,o,p,(q,t,u),v,y) l) (Int.toNat 0) 0) (Int.toNat ((IntKind.i64.wrap ((56:Int) - 8)+8) / 8)) (IntKind.i64.wrap ((56:Int) - 8)),numsS (d,g,j,o,p,(q,t,u),v,y) l,(↑(List.length (numsS (d,g,j,o,p,(q,t,u),v,y) l)):Int),IntKind.i64.wrap ((0:Int)+1),())) (.leaf { res:=.tup [SV.str (strOfNums ([(109:Int),(112:Int),(108:Int),(49:Int)]++[IntKind.wrap IntKind.u8 (shrI IntKind.u64 (IntKind.u64.wrap (List.getD (numsS (d,g,j,o,p,(q,t,u),v,y) l) (Int.toNat 0) 0)) (IntKind.u64.wrap 56))]++byA (List.getD (numsS (d,g,j,o,p,(q,t,u),v,y) l) (Int.toNat 0) 0) (Int.toNat ((IntKind.i64.wrap ((56:Int) - 8)+8) / 8)) (IntKind.i64.wrap ((56:Int) - 8))++bysN (List.drop (Int.toNat (IntKind.i64.wrap ((0:Int)+1))) (numsS (d,g,j,o,p,(q,t,u),v,y) l)))),.int .i64 0],boxes:=[] }))))) (Tree.fail 34))) (Tree.fail 1044))))):=by kernel_rfl
def c_Log:MC P:=MC.of (α:=zX×List zP×Unit) 26 L_Log (fun x=>x) (fun x=>x) (fun _=>rfl)
 (fun(s,_)=>some (sOk s))
 (fun(s,l,_)=>⟨.tup [.str (logS s l).1,.int .i64 (logS s l).2],[],[]⟩) (by kernel_rfl) (by kernel_rfl) (by kernel_rfl) (by
  rintro⟨⟨d,g,j,o,p,⟨q,t,u⟩,v,y⟩,l,⟨⟩⟩ hp
  refine m_of hm (own:=true) (by kernel_rfl) (by kernel_rfl) (by kernel_rfl) (T_Log d g j o p q t u v y l) ⟨K_lgoP,trivial⟩ ?_
  have hp:sOk (d,g,j,o,p,(q,t,u),v,y):=hp
  dsimp only
  refine⟨hp,⟨fun c1=>?_,fun c1=>⟨fun c2=>?_,fun c2=>?_⟩⟩⟩
  ·unfold logS
   rw[if_pos (bne_iff_ne.mp c1)]
   exact rfl
  ·unfold logS
   rw[if_neg (fun h=>h (bne_eq_false_iff_eq.mp c1)),if_pos (by have:=dcT c2;omega)]
   exact rfl
  ·have c2:=dcF c2
   have hl:l.length<=200:=by omega
   obtain⟨n1,n2⟩:=numsS_len _ l hp (by omega)
   have e:logS (d,g,j,o,p,(q,t,u),v,y) l=(strOfNums ([109,112,108,49]++bysN (numsS (d,g,j,o,p,(q,t,u),v,y) l)),0):=by
    unfold logS
    rw[if_neg (fun h=>h (bne_eq_false_iff_eq.mp c1)),if_neg (by omega)]
   rw[e]
   generalize numsS (d,g,j,o,p,(q,t,u),v,y) l=r at *
   refine⟨⟨hp,by omega⟩,⟨fun c3=>⟨⟨by omega,by omega⟩,⟨fun c4=>⟨by decide,⟨⟨Nat.succ_pos _,?_⟩,⟨?_,⟨?_,?_⟩⟩⟩⟩,fun c4=>Bool.noConfusion c4⟩⟩,fun c3=>?_⟩⟩
   ·simp only[List.length_append,List.length_cons,List.length_nil];decide
   ·exact⟨⟨by decide,by decide⟩,by show (((4+1:Nat)):Int)<=100000000000 - 48;decide⟩
   ·exact⟨rfl,by decide,by show (1:Int)<=_;omega,by omega,by rw[List.length_append,byA_len];show (((4+1+7:Nat)):Int)<=100+8*1;decide⟩
   ·rw[<- bys_first n1]
    exact rfl
   ·exact absurd n1 (by have:=dcF c3;omega))
end
end Go.MB
