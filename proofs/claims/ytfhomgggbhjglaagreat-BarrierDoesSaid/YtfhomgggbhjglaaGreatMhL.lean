/- The law BarrierDoes: its trees outside the loops over the result. -/
import Derived.Test.YtfhomgggbhjglaaGreatMhH
import Derived.Test.YtfhomgggbhjglaaGreatMcH
namespace Go.MB
open Go Go.Sx Go.Proofs
set_option linter.unusedVariables false
set_option linter.unusedSimpArgs false
noncomputable section
def bDs:Code:=zJ Tryz.f3
def lpDs:Code:=yR (yZ 5 bDs)
def endDs:Code:=yZ 6 bDs
def rdDs:Code:=cIn (cIn (vJ lpDs))
def hdDs:Code:=yR rdDs
def kD:Code:=cIn (yR (vJ rdDs))
def nxDs:Code:=vJ (vJ rdDs)
def r9Ds:Code:=yR kD
def r10Ds:Code:=yR (yZ 1 kD)
def r11Ds:Code:=yR (yZ 2 kD)
def r12Ds:Code:=yR (yZ 3 kD)
def kU:Code:=yR (yZ 4 kD)
def l18Ds:Code:=yR (yZ 5 kD)
def l22Ds:Code:=yR (yZ 6 kD)
def r26Ds:Code:=yZ 7 kD
def LB:Lay:={ slots:=[(9,.val (.sl zR)),(10,.val (.sl jE)),(11,.val tI)] }
def kLA1(e:Exit)(S:St)(K:Kn):Tree (LB.den ⊕ Bool):=match e with
 |.normal=>match LB.ext 159 S with
  |some y=>.leaf (.inl y)
  |none=>.fail 71
 |_=>.fail 72
def kLA(e:Exit)(S:St)(K:Kn):Tree (LB.den ⊕ Bool):=match e with
 |.normal=>jR (P:=P) [] (fun _=>none) [] 159 0 (yR lpDs) S K kLA1
 |.ret=>obsB P 159 Tryz.f3 S fun b=>.leaf (.inr b)
 |_=>.fail 70
theorem T_lA(t c h o p:Int)(es:List E4)(vs:List (List Int))(n:Int)(ps:List Pm)(k:Int)(e0 e1 e2 e3 e4 e5:Int)(nums:List Int):jR (P:=P) [c_BigSite.gc,c_awake.gc,c_NewRing.gc,c_SiteOf.gc,c_EntryOf.gc] (fun _=>none) [] 159 0 (cut1 5 bDs) (fW (z_ 0 [.agg zR,.agg jE,.val (.sl tI)] ((t,c,h,o,p,(es,vs,n),ps,k),(e0,e1,e2,e3,e4,e5),nums,()))) (fun _=>none) kLA =
 Tree.cond (bigH (es,vs,n)||decide ((ps.length:Int)>20)) (.leaf (Sum.inr true)) (.need (kF ((),nums,(0:Int),())) (.need (xA ((),(yT ((),nums,(0:Int),())).1,(80:Int),nums,(yT ((),nums,(0:Int),())).2,())) (.need (xA ((),(yT ((),nums,(0:Int),())).1,(3:Int),nums,(pI ((),(yT ((),nums,(0:Int),())).1,(80:Int),nums,(yT ((),nums,(0:Int),())).2,())).2,())) (.leaf (Sum.inl ([(t,c,h,o,p,(es,vs,n),ps,k),(yT ((),nums,(0:Int),())).1,(yT ((),nums,(0:Int),())).1,(yT ((),nums,(0:Int),())).1],[(e0,e1,e2,e3,e4,e5),(e0,e1,e2,e3,e4,e5),(pI ((),(yT ((),nums,(0:Int),())).1,(80:Int),nums,(yT ((),nums,(0:Int),())).2,())).1,(pI ((),(yT ((),nums,(0:Int),())).1,(3:Int),nums,(pI ((),(yT ((),nums,(0:Int),())).1,(80:Int),nums,(yT ((),nums,(0:Int),())).2,())).2,())).1],(0:Int),())))))):=by kernel_rfl
def csF(ss:List zE)(ls:List zN)(j:Int):St:=wZ [(9,.sl zR ss),(10,.sl jE ls),(11,.int .i64 j)] [] []
def kLB(e:Exit)(S:St)(K:Kn):Tree (Exit×List SV×List (Option Ob)×List Bool):=match e with
 |.normal=>jQ (P:=P) [c_rCopy.gc] 159 (vI r9Ds) false ((vL r9Ds).take 5) S K [] (fun S _=>obs [9,10,11,49] [] [] .normal S)
 |e=>.leaf (e,[],[],[])
theorem T_lB(ss:List zE)(ls:List zN)(j:Int):jR (P:=P) [] (fun _=>none) [] 159 0 hdDs (csF ss ls j) (fun _=>none) kLB =
 Tree.cond (decide (j<4)) (.need ((0:Int)<=j/\j<(ss.length:Int)) (.need (sOk (ss.getD j.toNat ((0:Int),(0:Int),(0:Int),(0:Int),(0:Int),([],[],(0:Int)),[],(0:Int)))) (.leaf (Exit.normal,[.sl (Ty.pair tI (Ty.pair tI (Ty.pair tI (Ty.pair tI (Ty.pair tI (Ty.pair tHs (Ty.pair gP tI))))))) ss,.sl (Ty.pair tI (Ty.pair tI (Ty.pair tI (Ty.pair tI (Ty.pair tI tI))))) ls,.int .i64 j,.agg [.int .i64 (ss.getD j.toNat ((0:Int),(0:Int),(0:Int),(0:Int),(0:Int),([],[],(0:Int)),[],(0:Int))).1,.int .i64 (ss.getD j.toNat ((0:Int),(0:Int),(0:Int),(0:Int),(0:Int),([],[],(0:Int)),[],(0:Int))).2.1,.int .i64 (ss.getD j.toNat ((0:Int),(0:Int),(0:Int),(0:Int),(0:Int),([],[],(0:Int)),[],(0:Int))).2.2.1,.int .i64 (ss.getD j.toNat ((0:Int),(0:Int),(0:Int),(0:Int),(0:Int),([],[],(0:Int)),[],(0:Int))).2.2.2.1,.int .i64 (ss.getD j.toNat ((0:Int),(0:Int),(0:Int),(0:Int),(0:Int),([],[],(0:Int)),[],(0:Int))).2.2.2.2.1,.sl (Ty.pair tI (Ty.pair tI (Ty.pair tI tI))) (ss.getD j.toNat ((0:Int),(0:Int),(0:Int),(0:Int),(0:Int),([],[],(0:Int)),[],(0:Int))).2.2.2.2.2.1.1,.sl (Ty.sl tI) (ss.getD j.toNat ((0:Int),(0:Int),(0:Int),(0:Int),(0:Int),([],[],(0:Int)),[],(0:Int))).2.2.2.2.2.1.2.1,.int .i64 (ss.getD j.toNat ((0:Int),(0:Int),(0:Int),(0:Int),(0:Int),([],[],(0:Int)),[],(0:Int))).2.2.2.2.2.1.2.2,.sl (Ty.pair tI (Ty.pair tI (Ty.pair tI Ty.bool))) (ss.getD j.toNat ((0:Int),(0:Int),(0:Int),(0:Int),(0:Int),([],[],(0:Int)),[],(0:Int))).2.2.2.2.2.2.1,.int .i64 (ss.getD j.toNat ((0:Int),(0:Int),(0:Int),(0:Int),(0:Int),([],[],(0:Int)),[],(0:Int))).2.2.2.2.2.2.2]],[],[])))) (.leaf (Exit.exit (0:Nat),[],[],[])):=by kernel_rfl
def csG(ss:List zE)(ls:List zN)(j t c h o p:Int)(es:List E4)(vs:List (List Int))(n:Int)(ps:List Pm)(k:Int):St:=wZ [(9,.own 801),(10,.own 802),(11,.int .i64 j),(49,.agg (siteM t c h o p n k 811 812 813))]
 [(801,some (.frz zR ss)),(802,some (.frz jE ls)),(811,some (.frz tEl es)),(812,some (.frz tIs vs)),(813,some (.frz tPm ps))] [801,802,811,812,813]
theorem T_lC(ss:List zE)(ls:List zN)(j t c h o p:Int)(es:List E4)(vs:List (List Int))(n:Int)(ps:List Pm)(k:Int):jQ (P:=P) [] 159 (vI r9Ds) false ((vL r9Ds).drop 5) (csG ss ls j t c h o p es vs n ps k) (fun _=>none) [] (fun S _=>obs [9,10,11,12] [13159] [13159,801,802,811,812,813] .normal S) =
 Tree.leaf (Exit.normal,[.own (801:Nat),.own (802:Nat),.int .i64 j,SV.ptr (13159:Nat) (0:Nat)],[some (Ob.box [.int .i64 t,.int .i64 c,.int .i64 h,.int .i64 o,.int .i64 p,.own (811:Nat),.own (812:Nat),.int .i64 n,.own (813:Nat),.int .i64 k])],[true,true,true,true,true,true]):=by kernel_rfl
def csH(ss:List zE)(ls:List zN)(j t c h o p:Int)(es:List E4)(vs:List (List Int))(n:Int)(ps:List Pm)(k:Int):St:=wZ [(9,.own 801),(10,.own 802),(11,.int .i64 j),(12,.ptr 1 0)]
 [(1,some (.box (siteM t c h o p n k 811 812 813))),(801,some (.frz zR ss)),(802,some (.frz jE ls)),(811,some (.frz tEl es)),(812,some (.frz tIs vs)),(813,some (.frz tPm ps))] [1,801,802,811,812,813]
def kLD3(e:Exit)(S:St)(K:Kn):Tree (Exit×List SV×List (Option Ob)×List Bool):=match e with
 |.normal=>jR (P:=P) [] (fun _=>none) [] 159 1 (yR kU) S K (fun e S _=>obs [9,10,11,12,13,17] [1,14159,57159,57160,57161,801,802,811,812,813] [1,14159,57159,57160,57161,801,802,811,812,813] e S)
 |e=>.leaf (e,[],[],[])
def kLD2(e:Exit)(S:St)(K:Kn):Tree (Exit×List SV×List (Option Ob)×List Bool):=match e with
 |.normal=>jR (P:=P) [c_Check.gc,c_rCheck.gc,c_rSame.gc] (fun _=>none) [] 159 1 r12Ds S K kLD3
 |_=>.fail 74
def kLD1(e:Exit)(S:St)(K:Kn):Tree (Exit×List SV×List (Option Ob)×List Bool):=match e with
 |.normal=>jR (P:=P) [c_rDo.gc] (fun _=>none) [] 159 1 r11Ds S K kLD2
 |_=>.fail 73
theorem T_lD(ss:List zE)(ls:List zN)(j t c h o p:Int)(es:List E4)(vs:List (List Int))(n:Int)(ps:List Pm)(k:Int):jR (P:=P) [c_DoN 1] (fun _=>none) [] 159 1 r10Ds (csH ss ls j t c h o p es vs n ps k) (fun _=>none) kLD1 =
 Tree.need ((0:Int)<=j/\j<(ls.length:Int)) (.need (sOk (t,c,h,o,p,(es,vs,n),ps,k)/\ps.length<=(900:Nat)) (.need ((0:Int)<=j/\j<(ss.length:Int)) (.need ((0:Int)<=j/\j<(ls.length:Int)) (.need (sOk (ss.getD j.toNat ((0:Int),(0:Int),(0:Int),(0:Int),(0:Int),([],[],(0:Int)),[],(0:Int)))/\List.length (ss.getD j.toNat ((0:Int),(0:Int),(0:Int),(0:Int),(0:Int),([],[],(0:Int)),[],(0:Int))).2.2.2.2.2.2.1<=(900:Nat)) (.need (sOk (t,c,h,o,p,(es,vs,n),ps,k)) (.need ((0:Int)<=j/\j<(ss.length:Int)) (.need (sOk (ss.getD j.toNat ((0:Int),(0:Int),(0:Int),(0:Int),(0:Int),([],[],(0:Int)),[],(0:Int)))) (.cond (vY (t,c,h,o,p,(es,vs,n),ps,k) != vY (ss.getD j.toNat ((0:Int),(0:Int),(0:Int),(0:Int),(0:Int),([],[],(0:Int)),[],(0:Int)))) (.leaf (Exit.ret,[],[],[])) (.need (sOk (dS (t,c,h,o,p,(es,vs,n),ps,k) (ls.getD j.toNat (0,0,0,0,0,0))).1/\sOk (dS (ss.getD j.toNat ((0:Int),(0:Int),(0:Int),(0:Int),(0:Int),([],[],(0:Int)),[],(0:Int))) (ls.getD j.toNat (0,0,0,0,0,0))).1) (.cond (!sameB (dS (t,c,h,o,p,(es,vs,n),ps,k) (ls.getD j.toNat (0,0,0,0,0,0))).1 (dS (ss.getD j.toNat ((0:Int),(0:Int),(0:Int),(0:Int),(0:Int),([],[],(0:Int)),[],(0:Int))) (ls.getD j.toNat (0,0,0,0,0,0))).1) (.leaf (Exit.ret,[],[],[])) (.cond ((dS (t,c,h,o,p,(es,vs,n),ps,k) (ls.getD j.toNat (0,0,0,0,0,0))).2 != (dS (ss.getD j.toNat ((0:Int),(0:Int),(0:Int),(0:Int),(0:Int),([],[],(0:Int)),[],(0:Int))) (ls.getD j.toNat (0,0,0,0,0,0))).2) (.leaf (Exit.ret,[],[],[])) (.need ((0:Int)<=j/\j<(ss.length:Int)) (.need (sOk (t,c,h,o,p,(es,vs,n),ps,k)/\sOk (ss.getD j.toNat ((0:Int),(0:Int),(0:Int),(0:Int),(0:Int),([],[],(0:Int)),[],(0:Int)))) (.cond (!sameB (t,c,h,o,p,(es,vs,n),ps,k) (ss.getD j.toNat ((0:Int),(0:Int),(0:Int),(0:Int),(0:Int),([],[],(0:Int)),[],(0:Int)))) (.leaf (Exit.ret,[],[],[])) (.leaf (Exit.normal,[.own (801:Nat),.own (802:Nat),.int .i64 j,SV.ptr (1:Nat) (0:Nat),SV.ptr (14159:Nat) (0:Nat),.int .i64 0],[some (Ob.box [.int .i64 t,.int .i64 c,.int .i64 h,.int .i64 o,.int .i64 p,.own (811:Nat),.own (812:Nat),.int .i64 n,.own (813:Nat),.int .i64 k]),some (Ob.box [.int .i64 (dS (t,c,h,o,p,(es,vs,n),ps,k) (ls.getD j.toNat (0,0,0,0,0,0))).1.1,.int .i64 (dS (t,c,h,o,p,(es,vs,n),ps,k) (ls.getD j.toNat (0,0,0,0,0,0))).1.2.1,.int .i64 (dS (t,c,h,o,p,(es,vs,n),ps,k) (ls.getD j.toNat (0,0,0,0,0,0))).1.2.2.1,.int .i64 (dS (t,c,h,o,p,(es,vs,n),ps,k) (ls.getD j.toNat (0,0,0,0,0,0))).1.2.2.2.1,.int .i64 (dS (t,c,h,o,p,(es,vs,n),ps,k) (ls.getD j.toNat (0,0,0,0,0,0))).1.2.2.2.2.1,.own (nat_lit 57159),.own (nat_lit 57159+(1:Nat)),.int .i64 (dS (t,c,h,o,p,(es,vs,n),ps,k) (ls.getD j.toNat (0,0,0,0,0,0))).1.2.2.2.2.2.1.2.2,.own (nat_lit 57159+(2:Nat)),.int .i64 (dS (t,c,h,o,p,(es,vs,n),ps,k) (ls.getD j.toNat (0,0,0,0,0,0))).1.2.2.2.2.2.2.2]),some (Ob.nw (1:Nat) tEl (dS (t,c,h,o,p,(es,vs,n),ps,k) (ls.getD j.toNat (0,0,0,0,0,0))).1.2.2.2.2.2.1.1),some (Ob.nw (1:Nat) tIs (dS (t,c,h,o,p,(es,vs,n),ps,k) (ls.getD j.toNat (0,0,0,0,0,0))).1.2.2.2.2.2.1.2.1),some (Ob.nw (1:Nat) tPm (dS (t,c,h,o,p,(es,vs,n),ps,k) (ls.getD j.toNat (0,0,0,0,0,0))).1.2.2.2.2.2.2.1),some (Ob.frz zR ss),some (Ob.frz jE ls),some (Ob.frz tEl es),some (Ob.frz tIs vs),some (Ob.frz tPm ps)],[true,true,true,true,true,true,true,true,true,true])))))))))))))))):=by kernel_rfl
def kLE(e:Exit)(S:St)(K:Kn):Tree (Exit×List SV×List (Option Ob)×List Bool):=match e with
 |.normal=>jR (P:=P) [] (fun _=>none) [] 159 0 nxDs S K (fun e S _=>obs [9,10,11] [] [] e S)
 |e=>.leaf (e,[],[],[])
theorem T_lE(ss:List zE)(ls:List zN)(j t c h o p:Int)(es:List E4)(vs:List (List Int))(n:Int)(ps:List Pm)(k:Int):jR (P:=P) [c_rSame.gc] (fun _=>none) [] 159 1 r26Ds (csH ss ls j t c h o p es vs n ps k) (fun _=>none) kLE =
 Tree.need ((0:Int)<=j/\j<(ss.length:Int)) (.need (sOk (t,c,h,o,p,(es,vs,n),ps,k)/\sOk (ss.getD j.toNat ((0:Int),(0:Int),(0:Int),(0:Int),(0:Int),([],[],(0:Int)),[],(0:Int)))) (.cond (!sameB (t,c,h,o,p,(es,vs,n),ps,k) (ss.getD j.toNat ((0:Int),(0:Int),(0:Int),(0:Int),(0:Int),([],[],(0:Int)),[],(0:Int)))) (.leaf (Exit.ret,[],[],[])) (.leaf (Exit.normal,[.own (801:Nat),.own (802:Nat),.int .i64 (IntKind.i64.wrap (j+1))],[],[])))):=by kernel_rfl
theorem T_lG(ss:List zE)(ls:List zN)(j:Int):jR (P:=P) [c_awake.gc] (fun _=>none) [] 159 0 endDs (wZ [] [] []) (fun _=>none) (fun e S _=>obsB P 159 Tryz.f3 S fun b=>.leaf (e,b)) =
 Tree.leaf (Exit.ret,true):=by kernel_rfl
def b14:Code:=cIn (cIn (vJ kU))
def w14:Code:=cIn (yR (vJ b14))
def b18:Code:=cIn (cIn (vJ l18Ds))
def w18:Code:=cIn (yR (vJ b18))
def b22:Code:=cIn (cIn (vJ l22Ds))
def w22:Code:=cIn (yR (vJ b22))
theorem T_14a(d:zE)(i j:Int):jR (P:=P) [] (fun _=>none) [] 159 2 (yR b14) (wZ [(17,.int .i64 i),(13,.adr zR d),(11,.int .i64 j),(12,.ptr 1 0),(9,.own 801),(10,.own 802)] [] [1,801,802]) (fun _=>none) (fun e S _=>obs [17,13,11,12,9,10] [] [] e S) =
 Tree.cond (decide (i<(↑(List.length d.2.2.2.2.2.1.1):Int))) (.leaf (Exit.normal,[.int .i64 i,SV.adr (Ty.pair tI (Ty.pair tI (Ty.pair tI (Ty.pair tI (Ty.pair tI (Ty.pair tHs (Ty.pair gP tI))))))) d,.int .i64 j,SV.ptr (1:Nat) (0:Nat),.own (801:Nat),.own (802:Nat)],[],[])) (.leaf (Exit.exit (2:Nat),[.int .i64 i,SV.adr (Ty.pair tI (Ty.pair tI (Ty.pair tI (Ty.pair tI (Ty.pair tI (Ty.pair tHs (Ty.pair gP tI))))))) d,.int .i64 j,SV.ptr (1:Nat) (0:Nat),.own (801:Nat),.own (802:Nat)],[],[])):=by kernel_rfl
theorem T_14b(d:zE)(i j:Int):jQ (P:=P) [] 159 (vI w14) false ((vL w14).take 10) (wZ [(17,.int .i64 i),(13,.adr zR d),(11,.int .i64 j),(12,.ptr 1 0),(9,.own 801),(10,.own 802)] [] [1,801,802]) (fun _=>none) [] (fun S _=>obs [13,116,114,17,11,12,9,10] [] [] .normal S) =
 Tree.need ((0:Int)<=i/\i<(↑(List.length d.2.2.2.2.2.1.1):Int)) (.need ((0:Int)<=i/\i<(↑(List.length d.2.2.2.2.2.1.1):Int)) (.leaf (Exit.normal,[SV.adr (Ty.pair tI (Ty.pair tI (Ty.pair tI (Ty.pair tI (Ty.pair tI (Ty.pair tHs (Ty.pair gP tI))))))) d,SV.adr (Ty.int IntKind.i64) (List.getD d.2.2.2.2.2.1.1 i.toNat (0,0,0,0)).2.1,.int .i64 (IntKind.i64.wrap ((List.getD d.2.2.2.2.2.1.1 i.toNat (0,0,0,0)).2.1+1)),.int .i64 i,.int .i64 j,SV.ptr (1:Nat) (0:Nat),.own (801:Nat),.own (802:Nat)],[],[]))):=by kernel_rfl
theorem T_14c(d:zE)(i j:Int):jR (P:=P) [] (fun _=>none) [] 159 2 (vJ (vJ b14)) (wZ [(13,.adr zR d),(17,.int .i64 i),(11,.int .i64 j),(12,.ptr 1 0),(9,.own 801),(10,.own 802)] [] [1,801,802]) (fun _=>none) (fun e S _=>obs [17,13,11,12,9,10] [] [] e S) =
 Tree.leaf (Exit.normal,[.int .i64 (IntKind.i64.wrap (i+1)),SV.adr (Ty.pair tI (Ty.pair tI (Ty.pair tI (Ty.pair tI (Ty.pair tI (Ty.pair tHs (Ty.pair gP tI))))))) d,.int .i64 j,SV.ptr (1:Nat) (0:Nat),.own (801:Nat),.own (802:Nat)],[],[]):=by kernel_rfl
theorem T_18s(d:zE)(j:Int):jR (P:=P) [] (fun _=>none) [] 159 0 (yR l18Ds) (wZ [(13,.adr zR d),(11,.int .i64 j),(12,.ptr 1 0),(9,.own 801),(10,.own 802)] [] [1,801,802]) (fun _=>none) (fun e S _=>obs [18,13,11,12,9,10] [] [] e S) =
 Tree.leaf (Exit.normal,[.int .i64 0,SV.adr (Ty.pair tI (Ty.pair tI (Ty.pair tI (Ty.pair tI (Ty.pair tI (Ty.pair tHs (Ty.pair gP tI))))))) d,.int .i64 j,SV.ptr (1:Nat) (0:Nat),.own (801:Nat),.own (802:Nat)],[],[]):=by kernel_rfl
theorem T_18a(d:zE)(i j:Int):jR (P:=P) [] (fun _=>none) [] 159 4 (yR b18) (wZ [(18,.int .i64 i),(13,.adr zR d),(11,.int .i64 j),(12,.ptr 1 0),(9,.own 801),(10,.own 802)] [] [1,801,802]) (fun _=>none) (fun e S _=>obs [18,13,11,12,9,10] [] [] e S) =
 Tree.cond (decide (i<(↑(List.length d.2.2.2.2.2.1.2.1):Int))) (.leaf (Exit.normal,[.int .i64 i,SV.adr (Ty.pair tI (Ty.pair tI (Ty.pair tI (Ty.pair tI (Ty.pair tI (Ty.pair tHs (Ty.pair gP tI))))))) d,.int .i64 j,SV.ptr (1:Nat) (0:Nat),.own (801:Nat),.own (802:Nat)],[],[])) (.leaf (Exit.exit (4:Nat),[.int .i64 i,SV.adr (Ty.pair tI (Ty.pair tI (Ty.pair tI (Ty.pair tI (Ty.pair tI (Ty.pair tHs (Ty.pair gP tI))))))) d,.int .i64 j,SV.ptr (1:Nat) (0:Nat),.own (801:Nat),.own (802:Nat)],[],[])):=by kernel_rfl
theorem T_18b(d:zE)(i j:Int):jQ (P:=P) [] 159 (vI w18) false ((vL w18).take 10) (wZ [(18,.int .i64 i),(13,.adr zR d),(11,.int .i64 j),(12,.ptr 1 0),(9,.own 801),(10,.own 802)] [] [1,801,802]) (fun _=>none) [] (fun S _=>obs [13,134,133,18,11,12,9,10] [] [] .normal S) =
 Tree.need ((0:Int)<=i/\i<(↑(List.length d.2.2.2.2.2.1.2.1):Int)) (.need ((0:Int)<=0/\(0:Int)<(↑(List.length (List.getD d.2.2.2.2.2.1.2.1 i.toNat [])):Int)) (.need ((0:Int)<=0/\(0:Int)<(↑(List.length (List.getD d.2.2.2.2.2.1.2.1 i.toNat [])):Int)) (.leaf (Exit.normal,[SV.adr (Ty.pair tI (Ty.pair tI (Ty.pair tI (Ty.pair tI (Ty.pair tI (Ty.pair tHs (Ty.pair gP tI))))))) d,SV.adr (Ty.int IntKind.i64) (List.getD (List.getD d.2.2.2.2.2.1.2.1 i.toNat []) (Int.toNat (0:Int)) (0:Int)),.int .i64 (IntKind.i64.wrap (List.getD (List.getD d.2.2.2.2.2.1.2.1 i.toNat []) (Int.toNat (0:Int)) (0:Int)+1)),.int .i64 i,.int .i64 j,SV.ptr (1:Nat) (0:Nat),.own (801:Nat),.own (802:Nat)],[],[])))):=by kernel_rfl
theorem T_18c(d:zE)(i j:Int):jR (P:=P) [] (fun _=>none) [] 159 4 (vJ (vJ b18)) (wZ [(13,.adr zR d),(18,.int .i64 i),(11,.int .i64 j),(12,.ptr 1 0),(9,.own 801),(10,.own 802)] [] [1,801,802]) (fun _=>none) (fun e S _=>obs [18,13,11,12,9,10] [] [] e S) =
 Tree.leaf (Exit.normal,[.int .i64 (IntKind.i64.wrap (i+1)),SV.adr (Ty.pair tI (Ty.pair tI (Ty.pair tI (Ty.pair tI (Ty.pair tI (Ty.pair tHs (Ty.pair gP tI))))))) d,.int .i64 j,SV.ptr (1:Nat) (0:Nat),.own (801:Nat),.own (802:Nat)],[],[]):=by kernel_rfl
theorem T_22s(d:zE)(j:Int):jR (P:=P) [] (fun _=>none) [] 159 0 (yR l22Ds) (wZ [(13,.adr zR d),(11,.int .i64 j),(12,.ptr 1 0),(9,.own 801),(10,.own 802)] [] [1,801,802]) (fun _=>none) (fun e S _=>obs [19,13,11,12,9,10] [] [] e S) =
 Tree.leaf (Exit.normal,[.int .i64 0,SV.adr (Ty.pair tI (Ty.pair tI (Ty.pair tI (Ty.pair tI (Ty.pair tI (Ty.pair tHs (Ty.pair gP tI))))))) d,.int .i64 j,SV.ptr (1:Nat) (0:Nat),.own (801:Nat),.own (802:Nat)],[],[]):=by kernel_rfl
theorem T_22a(d:zE)(i j:Int):jR (P:=P) [] (fun _=>none) [] 159 6 (yR b22) (wZ [(19,.int .i64 i),(13,.adr zR d),(11,.int .i64 j),(12,.ptr 1 0),(9,.own 801),(10,.own 802)] [] [1,801,802]) (fun _=>none) (fun e S _=>obs [19,13,11,12,9,10] [] [] e S) =
 Tree.cond (decide (i<(↑(List.length d.2.2.2.2.2.2.1):Int))) (.leaf (Exit.normal,[.int .i64 i,SV.adr (Ty.pair tI (Ty.pair tI (Ty.pair tI (Ty.pair tI (Ty.pair tI (Ty.pair tHs (Ty.pair gP tI))))))) d,.int .i64 j,SV.ptr (1:Nat) (0:Nat),.own (801:Nat),.own (802:Nat)],[],[])) (.leaf (Exit.exit (6:Nat),[.int .i64 i,SV.adr (Ty.pair tI (Ty.pair tI (Ty.pair tI (Ty.pair tI (Ty.pair tI (Ty.pair tHs (Ty.pair gP tI))))))) d,.int .i64 j,SV.ptr (1:Nat) (0:Nat),.own (801:Nat),.own (802:Nat)],[],[])):=by kernel_rfl
theorem T_22b(d:zE)(i j:Int):jQ (P:=P) [] 159 (vI w22) false ((vL w22).take 9) (wZ [(19,.int .i64 i),(13,.adr zR d),(11,.int .i64 j),(12,.ptr 1 0),(9,.own 801),(10,.own 802)] [] [1,801,802]) (fun _=>none) [] (fun S _=>obs [13,150,148,19,11,12,9,10] [] [] .normal S) =
 Tree.need ((0:Int)<=i/\i<(↑(List.length d.2.2.2.2.2.2.1):Int)) (.need ((0:Int)<=i/\i<(↑(List.length d.2.2.2.2.2.2.1):Int)) (.leaf (Exit.normal,[SV.adr (Ty.pair tI (Ty.pair tI (Ty.pair tI (Ty.pair tI (Ty.pair tI (Ty.pair tHs (Ty.pair gP tI))))))) d,SV.adr (Ty.int IntKind.i64) (List.getD d.2.2.2.2.2.2.1 i.toNat ((0:Int),(0:Int),(0:Int),false)).1,.int .i64 (IntKind.i64.wrap ((List.getD d.2.2.2.2.2.2.1 i.toNat ((0:Int),(0:Int),(0:Int),false)).1+1)),.int .i64 i,.int .i64 j,SV.ptr (1:Nat) (0:Nat),.own (801:Nat),.own (802:Nat)],[],[]))):=by kernel_rfl
theorem T_22c(d:zE)(i j:Int):jR (P:=P) [] (fun _=>none) [] 159 6 (vJ (vJ b22)) (wZ [(13,.adr zR d),(19,.int .i64 i),(11,.int .i64 j),(12,.ptr 1 0),(9,.own 801),(10,.own 802)] [] [1,801,802]) (fun _=>none) (fun e S _=>obs [19,13,11,12,9,10] [] [] e S) =
 Tree.leaf (Exit.normal,[.int .i64 (IntKind.i64.wrap (i+1)),SV.adr (Ty.pair tI (Ty.pair tI (Ty.pair tI (Ty.pair tI (Ty.pair tI (Ty.pair tHs (Ty.pair gP tI))))))) d,.int .i64 j,SV.ptr (1:Nat) (0:Nat),.own (801:Nat),.own (802:Nat)],[],[]):=by kernel_rfl
end
end Go.MB
