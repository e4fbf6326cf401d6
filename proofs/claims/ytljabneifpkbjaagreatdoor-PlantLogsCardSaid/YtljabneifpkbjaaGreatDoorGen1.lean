/- Printed by gsx.py: functions of the program as Lean functions, and that the code computes them. -/
import Derived.Test.YtljabneifpkbjaaGreatDoorBase
set_option linter.unusedVariables false
set_option maxRecDepth 10000
set_option maxHeartbeats 4000000
namespace Go.Proofs.YtljabneifpkbjaaGreatDoor
open Go.SX
abbrev b0:Orc:=.br false
abbrev b1:Orc:=.br true
def no:Nat→List Orc→List Orc
 | 0,l=>l
 | n+1,l=>.no::no n l
theorem rf {f:FuncId} {args:jVj} {r:D} {ob:List Prop} (orc:List Orc) (ho:All ob) (h:ut true 100 cx f args orc=some (r,ob):=by kernel_rfl):Computes cx f args r:=run h ho
theorem rfO {f:FuncId} {args:List AV} {i:Option (List OC)} (b:Nat) {ks:List Bool} {r:AV} {cs:List OC} (orc:List Orc) {ob:List Prop} (ho:All ob) (h:Qcd 100 cx f args i b cs ks orc=some (r,cs,ob):=by kernel_rfl):ComputesO cx f args i r cs ks:=QcZ ho h
structure Lp (S E:Type) where
 T:S→List (Nat×AV)
 H:S→List (Nat×Blk)
 X:E→Ex
 Y:E→List (Nat×AV)
 Z:E→List (Nat×Blk)
abbrev Rl {S E:Type} (c:Code) (nt vis:Nat) (rnd:Bool) (L:Lp S E) (s:S) (r:S⊕E):Prop:=Rd cx c nt vis rnd L.T L.H L.X L.Y L.Z s r
theorem rn {S E:Type} {c:Code} {nt vis:Nat} {rnd:Bool} {L:Lp S E} {s s' : S} (nx:Nat) (orc:List Orc) (pr kt kb:List Nat) {ob:List Prop} (ho:All ob) (h:J9 100 cx c nt vis rnd nx (L.T s) (L.H s) orc pr kt kb=some (.normal,L.T s',L.H s',ob):=by kernel_rfl):Rl c nt vis rnd L s (.inl s'):=⟨100,nx,orc,pr,kt,kb,uv ho h⟩
theorem rx {S E:Type} {c:Code} {nt vis:Nat} {rnd:Bool} {L:Lp S E} {s:S} {e:E} (nx:Nat) (orc:List Orc) (pr kt kb:List Nat) {ob:List Prop} (ho:All ob) (h:J9 100 cx c nt vis rnd nx (L.T s) (L.H s) orc pr kt kb=some (L.X e,L.Y e,L.Z e,ob):=by kernel_rfl) (hx:L.X e≠.normal:=by nofun):Rl c nt vis rnd L s (.inr e):=⟨⟨100,nx,orc,pr,kt,kb,uv ho h⟩,hx⟩
theorem ro (e:TypeId) {b n:Nat} (h:Wa b n) (hb:cx.bytes e=some b:=by kernel_rfl) (h0:0 < b:=by decide):room cx e n:=ZB hb h0 h
theorem allE {α:Type} {un:D→Option α} {enc:α→D} {es:jVj} {i:Int} {x:α} {l:List Prop} (hun:∀ {d x},un d=some x→d=enc x) (h:el un es i=some x) (t:All l):All ((0≤i)::(nth es i.toNat=some (enc x))::l):=Qa (Qf hun h).1 (Qa (Qf hun h).2 t)
theorem io {α:Type} {p:Prop} [Decidable p] {x y:Option α} {r:α} (h:(if p then x else y)=some r):(p∧x=some r) ∨ (¬ p∧y=some r):=by
 by_cases hp:p
 · exact .inl ⟨hp,it h hp⟩
 · exact .inr ⟨hp,jf h hp⟩
abbrev qC:List Bool:=[true,true,true,true,true,true,true,true,true,true]
abbrev ZV:List Bool:=[true,true,true,true,true,true,true,true,true,true,true,true]
abbrev Qb (x0 x1:jVj) (x2 x3:Int) (x4 x5:Bool) (x6 x7 x8:Int) (x9 x10 x11:jVj):List OC:=[.row 5 x0,.row 5 x1,.dat (I x2),.dat (I x3),.dat (B x4),.dat (B x5),.dat (I x6),.dat (I x7),.dat (I x8),.row 1 x9,.row 6 x10,.row 7 x11]
abbrev QJ (x0 x1:Int) (x2 x3:Bool) (x4 x5 x6:Int) (x7 x8 x9:jVj):List OC:=[.dat (I x0),.dat (I x1),.dat (B x2),.dat (B x3),.dat (I x4),.dat (I x5),.dat (I x6),.row 1 x7,.row 6 x8,.row 7 x9]
def QP (x:Int×jSj×jVj×jVj×jSj):D:=.agg [I x.1,.v (.string x.2.1),.lst false 1 x.2.2.1,.lst false 1 x.2.2.2.1,.v (.string x.2.2.2.2)]
def Ze:D→Option (Int×jSj×jVj×jVj×jSj)
 | .agg [c0,c1,c2,c3,c4]=>(Ya .i64 c0).bind fun y0=>(JR c1).bind fun y1=>(Em 1 c2).bind fun y2=>(Em 1 c3).bind fun y3=>(JR c4).bind fun y4=>some (y0,y1,y2,y3,y4)
 | _=>none
theorem Ql {d:D} {x:Int×jSj×jVj×jVj×jSj} (h:Ze d=some x):d=QP x:=by
 unfold Ze at h
 split at h
 case h_2=>cases h
 obtain ⟨y0,h0,h⟩:=ZX h
 obtain ⟨y1,h1,h⟩:=ZX h
 obtain ⟨y2,h2,h⟩:=ZX h
 obtain ⟨y3,h3,h⟩:=ZX h
 obtain ⟨y4,h4,h⟩:=ZX h
 cases h
 have e0:=WS h0
 have e1:=YU h1
 have e2:=J7 h2
 have e3:=J7 h3
 have e4:=YU h4
 rw [e0,e1,e2,e3,e4];rfl
def Zy (x:jSj):D:=.v (.string x)
def Ww (d:D):Option (jSj):=JR d
theorem Qr {d:D} {x:jSj} (h:Ww d=some x):d=Zy x:=YU h
def Zx (n:Nat) (a0:jVj) (sa:Int) (sb:(Int)):Option (((Int))⊕((Unit)⊕(Unit))) :=
 (el Ze a0 sa).bind fun tb1 =>
 if sb < ((tb1.2.2.1).length:Int) then
  (el Ww tb1.2.2.1 sb).bind fun tb3 =>
  if (tb3.size:Int) > 40 then
   some (.inr (.inl ()))
  else
  if Qh (sb+1) then
  some (.inl (sb+1))
  else none
 else
 some (.inr (.inr ()))
noncomputable def GY (a0:jVj) (sa:Int):Lp ((Int)) ((Unit)⊕(Unit)):=⟨fun sb=>[(0,.d (.lst false 5 a0)),(5,.d (I sa)),(6,.d (I sb))],fun _=>[],fun
 | (.inl e)=>.ret
 | (.inr e)=>(.exit 2),fun
 | (.inl e)=>[(4,.d (B false))]
 | (.inr e)=>[(0,.d (.lst false 5 a0)),(5,.d (I sa))],fun _=>[]⟩
theorem Uk {n:Nat} {a0:jVj} {sa:Int} (sb:(Int)) (r) (h:Zx n a0 sa sb=some r):Rl (ZJ cx.P 13 1) 71 0 false (GY a0 sa) sb r:=by
 unfold Zx at h
 obtain ⟨tb1,hb1,h⟩:=bo h
 have q:=allE Ql hb1 QL
 let o (l:List Orc):=.el (QP tb1)::l
 rcases io h with ⟨hb2,h⟩ | ⟨hb2,h⟩
 ·obtain ⟨tb3,hb3,h⟩:=bo h
  have q:=allE Qr hb3 (allE Ql hb1 (Qa (jDj hb2) q))
  let o l:=o (b1::.el (QP tb1)::.el (Zy tb3)::l)
  rcases io h with ⟨hb4,h⟩ | ⟨hb4,h⟩
  ·cases h
   exact rx 45 (o [b1]) [] [4] [] (Qa (jDj hb4) q)
  obtain ⟨hb5,h⟩:=gd h
  cases h
  exact rn 45 (o [b0]) [] [0,5,6] [] (Qa hb5 (Qa (jEj hb4) q))
 cases h
 exact rx 45 (o [b0]) [] [0,5] [] (Qa (jEj hb2) q)
def Zw (n:Nat) (a0:jVj) (sa:(Int)):Option (((Int))⊕((Unit)⊕(Unit))) :=
 if sa < ((a0).length:Int) then
  (el Ze a0 sa).bind fun ta2 =>
  if (ta2.2.1.size:Int) > 40 then
   some (.inr (.inl ()))
  else
  if ((ta2.2.2.1).length:Int) > 6 then
   some (.inr (.inl ()))
  else
  if ((ta2.2.2.2.1).length:Int) > 8 then
   some (.inr (.inl ()))
  else
  if (ta2.2.2.2.2.size:Int) > 200 then
   some (.inr (.inl ()))
  else
  (Q2 (Zx n a0 sa) n 0).bind fun ta7=>match ta7 with
   | (.inl ta7)=>(
    some (.inr (.inl ())))
   | (.inr ta7)=>(
    if Qh (sa+1) then
    some (.inl (sa+1))
    else none)
 else
 some (.inr (.inr ()))
noncomputable def GX (a0:jVj):Lp ((Int)) ((Unit)⊕(Unit)):=⟨fun sa=>[(0,.d (.lst false 5 a0)),(5,.d (I sa))],fun _=>[],fun
 | (.inl e)=>.ret
 | (.inr e)=>(.exit 0),fun
 | (.inl e)=>[(4,.d (B false))]
 | (.inr e)=>[],fun _=>[]⟩
theorem Uj {n:Nat} {a0:jVj} (sa:(Int)) (r) (h:Zw n a0 sa=some r):Rl (ZJ cx.P 13 0) 71 0 false (GX a0) sa r:=by
 unfold Zw at h
 rcases io h with ⟨ha1,h⟩ | ⟨ha1,h⟩
 ·obtain ⟨ta2,ha2,h⟩:=bo h
  have q:=allE Ql ha2 (Qa (jDj ha1) QL)
  let o (l:List Orc):=b1::.el (QP ta2)::l
  rcases io h with ⟨ha3,h⟩ | ⟨ha3,h⟩
  ·cases h
   exact rx 6 (o [b1,.no,.no,.no]) [] [4] [] (Qa (jDj ha3) q)
  have q:=allE Ql ha2 (Qa (jEj ha3) q)
  let o l:=o (b0::.el (QP ta2)::l)
  rcases io h with ⟨ha4,h⟩ | ⟨ha4,h⟩
  ·cases h
   exact rx 6 (o [b1,.no,.no]) [] [4] [] (Qa (jDj ha4) q)
  have q:=allE Ql ha2 (Qa (jEj ha4) q)
  let o l:=o (b0::.el (QP ta2)::l)
  rcases io h with ⟨ha5,h⟩ | ⟨ha5,h⟩
  ·cases h
   exact rx 6 (o [b1,.no]) [] [4] [] (Qa (jDj ha5) q)
  have q:=allE Ql ha2 (Qa (jEj ha5) q)
  let o l:=o (b0::.el (QP ta2)::l)
  rcases io h with ⟨ha6,h⟩ | ⟨ha6,h⟩
  ·cases h
   exact rx 6 (o [b1]) [] [4] [] (Qa (jDj ha6) q)
  have q:=Qa (jEj ha6) q
  obtain ⟨ta7,ha7,h⟩:=bo h
  rcases ta7 with ta7 | ta7
  ·cases h
   exact rx 6 (o [b0,.lp [] [0,5,6] [] .ret [(4,.d (B false))] [] 77]) [] [4] [] (Qa (QH Uk ha7) q)
  obtain ⟨ha8,h⟩:=gd h
  cases h
  exact rn 6 (o [b0,.lp [] [0,5,6] [] (.exit 2) [(0,.d (.lst false 5 a0)),(5,.d (I sa))] [] 77]) [] [0,5] [] (Qa ha8 (Qa (QH Uk ha7) q))
 cases h
 exact rx 6 [b0] [] [] [] (Qa (jEj ha1) QL)
def WM (n:Nat) (a0:jVj) (a1:Int):Option (Bool) :=
 if ((a0).length:Int) > a1 then
  some false
 else
 (Q2 (Zw n a0) n 0).bind fun t2=>match t2 with
  | (.inl t2)=>(
   some false)
  | (.inr t2)=>(
   some true)
theorem XY {n:Nat} {a0:jVj} {a1:Int} {r:Bool} (h:WM n a0 a1=some r):Computes cx 13 [.lst false 5 a0,I a1] (B r):=by
 unfold WM at h
 rcases io h with ⟨h1,h⟩ | ⟨h1,h⟩
 ·obtain rfl:=oi h
  exact rf [b1] (Qa (jDj h1) QL)
 have q:=Qa (jEj h1) QL
 obtain ⟨t2,h2,h⟩:=bo h
 rcases t2 with t2 | t2
 ·obtain rfl:=oi h
  exact rf [b0,.lp [] [0,5] [] .ret [(4,.d (B false))] [] 91] (Qa (QH Uj h2) q)
 obtain rfl:=oi h
 exact rf [b0,.lp [] [0,5] [] (.exit 0) [] [] 91] (Qa (QH Uj h2) q)
def Wr:jVj:=[.tup [.v (.string ⟨#[115,101,99,116,111,114]⟩),.agg [.v (.string ⟨#[83]⟩),I 1,.fn (.func 147) [] [],.fn (.func 148) [] []]],.tup [.v (.string ⟨#[109,105,114,114,111,114]⟩),.agg [.v (.string ⟨#[77,115]⟩),I 2,.fn (.func 149) [] [],.fn (.func 150) [] []]],.tup [.v (.string ⟨#[115,111,105,108]⟩),.agg [.v (.string ⟨#[109]⟩),I 2,.fn (.func 151) [] [],.fn (.func 215) [] [.ref (.fn (.func 153) [] []) 0]]],.tup [.v (.string ⟨#[99,108,101,97,110]⟩),.agg [.v (.string ⟨#[109]⟩),I 1,.fn (.func 154) [] [],.fn (.func 215) [] [.ref (.fn (.func 155) [] []) 0]]],.tup [.v (.string ⟨#[100,101,102,101,99,116]⟩),.agg [.v (.string ⟨#[109]⟩),I 1,.fn (.func 216) [] [.ref (.fn (.func 157) [] []) 0],.fn (.func 215) [] [.ref (.fn (.func 158) [] []) 0]]],.tup [.v (.string ⟨#[114,101,112,97,105,114]⟩),.agg [.v (.string ⟨#[109]⟩),I 1,.fn (.func 216) [] [.ref (.fn (.func 159) [] []) 0],.fn (.func 215) [] [.ref (.fn (.func 160) [] []) 0]]],.tup [.v (.string ⟨#[97,105,109]⟩),.agg [.v (.string ⟨#[109]⟩),I 1,.fn (.func 216) [] [.ref (.fn (.func 161) [] []) 0],.fn (.func 215) [] [.ref (.fn (.func 162) [] []) 0]]],.tup [.v (.string ⟨#[112,97,114,107]⟩),.agg [.v (.string ⟨#[109]⟩),I 1,.fn (.func 216) [] [.ref (.fn (.func 163) [] []) 0],.fn (.func 215) [] [.ref (.fn (.func 164) [] []) 0]]],.tup [.v (.string ⟨#[100,105,109]⟩),.agg [.v (.string ⟨#[115]⟩),I 1,.fn (.func 154) [] [],.fn (.func 165) [] []]],.tup [.v (.string ⟨#[115,117,110]⟩),.agg [.v (.string ⟨#[]⟩),I 2,.fn (.func 168) [] [],.fn (.func 169) [] []]],.tup [.v (.string ⟨#[102,105,108,108]⟩),.agg [.v (.string ⟨#[]⟩),I 1,.fn (.func 170) [] [],.fn (.func 171) [] []]],.tup [.v (.string ⟨#[100,114,97,105,110]⟩),.agg [.v (.string ⟨#[]⟩),I 1,.fn (.func 172) [] [],.fn (.func 174) [] []]],.tup [.v (.string ⟨#[116,114,105,112]⟩),.agg [.v (.string ⟨#[]⟩),I 1,.fn (.func 175) [] [],.fn (.func 176) [] []]],.tup [.v (.string ⟨#[114,101,115,101,116]⟩),.agg [.v (.string ⟨#[]⟩),I 1,.fn (.func 178) [] [],.fn (.func 179) [] []]],.tup [.v (.string ⟨#[111,102,102,101,114]⟩),.agg [.v (.string ⟨#[79]⟩),I 5,.fn (.func 180) [] [],.fn (.func 182) [] []]],.tup [.v (.string ⟨#[100,101,108,105,118,101,114]⟩),.agg [.v (.string ⟨#[111]⟩),I 2,.fn (.func 183) [] [],.fn (.func 184) [] []]],.tup [.v (.string ⟨#[98,105,108,108]⟩),.agg [.v (.string ⟨#[111]⟩),I 1,.fn (.func 185) [] [],.fn (.func 186) [] []]],.tup [.v (.string ⟨#[117,110,100,111]⟩),.agg [.v (.string ⟨#[]⟩),I 0,.fn (.func 154) [] [],.fn (.func 187) [] []]]]
def QaN (x:jSj×Int×FnD×FnD):D:=.agg [.v (.string x.1),I x.2.1,.fn x.2.2.1.1 x.2.2.1.2.1 x.2.2.1.2.2,.fn x.2.2.2.1 x.2.2.2.2.1 x.2.2.2.2.2]
def J8:D→Option (jSj×Int×FnD×FnD)
 | .agg [c0,c1,c2,c3]=>(JR c0).bind fun y0=>(Ya .i64 c1).bind fun y1=>(ye c2).bind fun y2=>(ye c3).bind fun y3=>some (y0,y1,y2,y3)
 | _=>none
theorem yf {d:D} {x:jSj×Int×FnD×FnD} (h:J8 d=some x):d=QaN x:=by
 unfold J8 at h
 split at h
 case h_2=>cases h
 obtain ⟨y0,h0,h⟩:=ZX h
 obtain ⟨y1,h1,h⟩:=ZX h
 obtain ⟨y2,h2,h⟩:=ZX h
 obtain ⟨y3,h3,h⟩:=ZX h
 cases h
 have e0:=YU h0
 have e1:=WS h1
 have e2:=jU h2
 have e3:=jU h3
 rw [e0,e1,e2,e3];rfl
def Kx (n:Nat)  : Option (Int) :=
 some 3
theorem yQ {n:Nat}  {r:Int} (h:Kx n =some r):Computes cx 69 [B true,I 3] (I r):=by
 unfold Kx at h
 obtain rfl:=oi h
 exact rf [.no] QL
def Qm (n:Nat) (a0:Bool) (a1:Int):Option (Int) :=
 if a0=true then
  some a1
 else
 some 0
theorem Qu {n:Nat} {a0:Bool} {a1:Int} {r:Int} (h:Qm n a0 a1=some r):Computes cx 69 [B a0,I a1] (I r):=by
 unfold Qm at h
 rcases io h with ⟨h1,h⟩ | ⟨h1,h⟩
 ·obtain rfl:=oi h
  exact rf [b1] (Qa h1 QL)
 obtain rfl:=oi h
 exact rf [b0] (Qa (QA h1) QL)
def ZE (n:Nat) (a0 a1 a2:Int):Option (Int) :=
 if a0 < a1 then
  (Kx n).bind fun t2 =>
  some t2
 else
 (Qm n (decide (a0 > a2)) 3).bind fun t2 =>
 some t2
theorem WK {n:Nat} {a0 a1 a2:Int} {r:Int} (h:ZE n a0 a1 a2=some r):Computes cx 68 [I a0,I a1,I a2] (I r):=by
 unfold ZE at h
 rcases io h with ⟨h1,h⟩ | ⟨h1,h⟩
 ·obtain ⟨t2,h2,h⟩:=bo h;obtain rfl:=oi h
  exact rf [b1,.ret (I t2)] (Qa (yQ h2) (Qa (jDj h1) QL))
 obtain ⟨t2,h2,h⟩:=bo h;obtain rfl:=oi h
 exact rf [b0,.ret (I t2)] (Qa (Qu h2) (Qa (jEj h1) QL))
def Up (n:Nat)  : Option (Int) :=
 some 0
theorem jj {n:Nat}  {r:Int} (h:Up n =some r):Computes cx 69 [B false,I 13] (I r):=by
 unfold Up at h
 obtain rfl:=oi h
 exact rf [.no] QL
def Q3 (x:Int):D:=I x
def Vt (d:D):Option (Int):=Ya .i64 d
theorem Qi {d:D} {x:Int} (h:Vt d=some x):d=Q3 x:=WS h
def Vi (n:Nat) (a0:jVj) (sa:(Int)):Option (((Int))⊕((Int)⊕(Unit))) :=
 if sa < ((a0).length:Int) then
  (el Vt a0 sa).bind fun ta2 =>
  if ta2=0 then
   if Qh (sa+1) then
   some (.inl (sa+1))
   else none
  else
  some (.inr (.inl ta2))
 else
 some (.inr (.inr ()))
noncomputable def zp (a0:jVj):Lp ((Int)) ((Int)⊕(Unit)):=⟨fun sa=>[(5,.d (.lst false 1 a0)),(6,.d (I ((a0).length:Int))),(7,.d (I sa))],fun _=>[],fun
 | (.inl e)=>.ret
 | (.inr e)=>(.exit 0),fun
 | (.inl e)=>[(2,.d (I e))]
 | (.inr e)=>[],fun _=>[]⟩
theorem Gt {n:Nat} {a0:jVj} (sa:(Int)) (r) (h:Vi n a0 sa=some r):Rl (ZJ cx.P 67 0) 15 0 false (zp a0) sa r:=by
 unfold Vi at h
 rcases io h with ⟨ha1,h⟩ | ⟨ha1,h⟩
 ·obtain ⟨ta2,ha2,h⟩:=bo h
  have q:=allE Qi ha2 (Qa (jDj ha1) QL)
  rcases io h with ⟨ha3,h⟩ | ⟨ha3,h⟩
  ·obtain ⟨ha4,h⟩:=gd h
   cases h
   exact rn 4 [b1,.el (Q3 ta2),b0] [] [5,6,7] [] (Qa ha4 (Qa (nef ha3) q))
  cases h
  exact rx 4 [b1,.el (Q3 ta2),b1] [] [2] [] (Qa (net ha3) q)
 cases h
 exact rx 4 [b0] [] [] [] (Qa (jEj ha1) QL)
def Qo (n:Nat) (a0:jVj):Option (Int) :=
 (Q2 (Vi n a0) n 0).bind fun t1=>match t1 with
  | (.inl t1)=>(
   some t1)
  | (.inr t1)=>(
   some 0)
theorem Qx {n:Nat} {a0:jVj} {r:Int} (h:Qo n a0=some r):Computes cx 67 [.lst false 1 a0] (I r):=by
 unfold Qo at h
 obtain ⟨t1,h1,h⟩:=bo h
 rcases t1 with t1 | t1
 ·obtain rfl:=oi h
  exact rf [.lp [] [5,6,7] [] .ret [(2,.d (I t1))] [] 23] (Qa (QH Gt h1) QL)
 obtain rfl:=oi h
 exact rf [.lp [] [5,6,7] [] (.exit 0) [] [] 23] (Qa (QH Gt h1) QL)
def Wn (n:Nat) (a0:jSj) (sa:(Nat)):Option (((Nat))⊕((Unit)⊕(Unit))) :=
 if sa < a0.size then
  if ((Utf8.decode a0 sa).1:Int) ≥ 97 then
   if ((Utf8.decode a0 sa).1:Int)≤122 then
    some (.inl (sa+(Utf8.decode a0 sa).2))
   else
   if ((Utf8.decode a0 sa).1:Int) ≥ 65 then
    if ((Utf8.decode a0 sa).1:Int)≤90 then
     some (.inl (sa+(Utf8.decode a0 sa).2))
    else
    if ((sa:Nat):Int)=0 then
     some (.inr (.inl ()))
    else
    if ((Utf8.decode a0 sa).1:Int)=95 then
     some (.inl (sa+(Utf8.decode a0 sa).2))
    else
    if ((Utf8.decode a0 sa).1:Int) < 48 then
     some (.inr (.inl ()))
    else
    if ((Utf8.decode a0 sa).1:Int) > 57 then
     some (.inr (.inl ()))
    else
    some (.inl (sa+(Utf8.decode a0 sa).2))
   else
   if ((sa:Nat):Int)=0 then
    some (.inr (.inl ()))
   else
   if ((Utf8.decode a0 sa).1:Int)=95 then
    some (.inl (sa+(Utf8.decode a0 sa).2))
   else
   if ((Utf8.decode a0 sa).1:Int) < 48 then
    some (.inr (.inl ()))
   else
   if ((Utf8.decode a0 sa).1:Int) > 57 then
    some (.inr (.inl ()))
   else
   some (.inl (sa+(Utf8.decode a0 sa).2))
  else
  if ((Utf8.decode a0 sa).1:Int) ≥ 65 then
   if ((Utf8.decode a0 sa).1:Int)≤90 then
    some (.inl (sa+(Utf8.decode a0 sa).2))
   else
   if ((sa:Nat):Int)=0 then
    some (.inr (.inl ()))
   else
   if ((Utf8.decode a0 sa).1:Int)=95 then
    some (.inl (sa+(Utf8.decode a0 sa).2))
   else
   if ((Utf8.decode a0 sa).1:Int) < 48 then
    some (.inr (.inl ()))
   else
   if ((Utf8.decode a0 sa).1:Int) > 57 then
    some (.inr (.inl ()))
   else
   some (.inl (sa+(Utf8.decode a0 sa).2))
  else
  if ((sa:Nat):Int)=0 then
   some (.inr (.inl ()))
  else
  if ((Utf8.decode a0 sa).1:Int)=95 then
   some (.inl (sa+(Utf8.decode a0 sa).2))
  else
  if ((Utf8.decode a0 sa).1:Int) < 48 then
   some (.inr (.inl ()))
  else
  if ((Utf8.decode a0 sa).1:Int) > 57 then
   some (.inr (.inl ()))
  else
  some (.inl (sa+(Utf8.decode a0 sa).2))
 else
 some (.inr (.inr ()))
noncomputable def qy (a0:jSj):Lp ((Nat)) ((Unit)⊕(Unit)):=⟨fun _=>[(0,.d (.v (.string a0))),(7,.own 2 0)],fun sa=>[(2,.it a0 sa)],fun
 | (.inl e)=>.ret
 | (.inr e)=>(.exit 0),fun
 | (.inl e)=>[(2,.d (B false))]
 | (.inr e)=>[(0,.d (.v (.string a0)))],fun _=>[]⟩
theorem JP {n:Nat} {a0:jSj} (sa:(Nat)) (r) (h:Wn n a0 sa=some r):Rl (ZJ cx.P 113 0) 51 0 false (qy a0) sa r:=by
 unfold Wn at h
 rcases io h with ⟨ha1,h⟩ | ⟨ha1,h⟩
 ·have q:=Qa ha1 QL
  let o (l:List Orc):=b1::.no::l
  rcases io h with ⟨ha2,h⟩ | ⟨ha2,h⟩
  ·have q:=Qa (jDj ha2) q
   let o l:=o (b1::l)
   rcases io h with ⟨ha3,h⟩ | ⟨ha3,h⟩
   ·cases h
    exact rn 3 (o [b1,.no,.no]) [] [0,7] [2] (Qa (jDj ha3) q)
   have q:=Qa (jEj ha3) q
   let o l:=o (b0::l)
   rcases io h with ⟨ha4,h⟩ | ⟨ha4,h⟩
   ·have q:=Qa (jDj ha4) q
    let o l:=o (b1::l)
    rcases io h with ⟨ha5,h⟩ | ⟨ha5,h⟩
    ·cases h
     exact rn 3 (o [b0,.no]) [] [0,7] [2] (Qa (Ud (jDj ha5)) q)
    have q:=Qa (Uc (jEj ha5)) q
    let o l:=o (b1::l)
    rcases io h with ⟨ha6,h⟩ | ⟨ha6,h⟩
    ·cases h
     exact rx 3 (o [b1,.no]) [] [2] [] (Qa (eqt ha6) q)
    have q:=Qa (eqf ha6) q
    rcases io h with ⟨ha7,h⟩ | ⟨ha7,h⟩
    ·cases h
     exact rn 3 (o [b0,b0,.no]) [] [0,7] [2] (Qa (nef ha7) q)
    have q:=Qa (net ha7) q
    let o l:=o (b0::b1::l)
    rcases io h with ⟨ha8,h⟩ | ⟨ha8,h⟩
    ·cases h
     exact rx 3 (o [b1,.no]) [] [2] [] (Qa (jDj ha8) q)
    have q:=Qa (jEj ha8) q
    rcases io h with ⟨ha9,h⟩ | ⟨ha9,h⟩
    ·cases h
     exact rx 3 (o [b0,b1]) [] [2] [] (Qa (jDj ha9) q)
    cases h
    exact rn 3 (o [b0,b0]) [] [0,7] [2] (Qa (jEj ha9) q)
   have q:=Qa (jEj ha4) q
   let o l:=o (b0::.no::l)
   rcases io h with ⟨ha5,h⟩ | ⟨ha5,h⟩
   ·cases h
    exact rx 3 (o [b1,.no]) [] [2] [] (Qa (eqt ha5) q)
   have q:=Qa (eqf ha5) q
   rcases io h with ⟨ha6,h⟩ | ⟨ha6,h⟩
   ·cases h
    exact rn 3 (o [b0,b0,.no]) [] [0,7] [2] (Qa (nef ha6) q)
   have q:=Qa (net ha6) q
   let o l:=o (b0::b1::l)
   rcases io h with ⟨ha7,h⟩ | ⟨ha7,h⟩
   ·cases h
    exact rx 3 (o [b1,.no]) [] [2] [] (Qa (jDj ha7) q)
   have q:=Qa (jEj ha7) q
   rcases io h with ⟨ha8,h⟩ | ⟨ha8,h⟩
   ·cases h
    exact rx 3 (o [b0,b1]) [] [2] [] (Qa (jDj ha8) q)
   cases h
   exact rn 3 (o [b0,b0]) [] [0,7] [2] (Qa (jEj ha8) q)
  have q:=Qa (jEj ha2) q
  let o l:=o (b0::.no::l)
  rcases io h with ⟨ha3,h⟩ | ⟨ha3,h⟩
  ·have q:=Qa (jDj ha3) q
   let o l:=o (b1::l)
   rcases io h with ⟨ha4,h⟩ | ⟨ha4,h⟩
   ·cases h
    exact rn 3 (o [b0,.no]) [] [0,7] [2] (Qa (Ud (jDj ha4)) q)
   have q:=Qa (Uc (jEj ha4)) q
   let o l:=o (b1::l)
   rcases io h with ⟨ha5,h⟩ | ⟨ha5,h⟩
   ·cases h
    exact rx 3 (o [b1,.no]) [] [2] [] (Qa (eqt ha5) q)
   have q:=Qa (eqf ha5) q
   rcases io h with ⟨ha6,h⟩ | ⟨ha6,h⟩
   ·cases h
    exact rn 3 (o [b0,b0,.no]) [] [0,7] [2] (Qa (nef ha6) q)
   have q:=Qa (net ha6) q
   let o l:=o (b0::b1::l)
   rcases io h with ⟨ha7,h⟩ | ⟨ha7,h⟩
   ·cases h
    exact rx 3 (o [b1,.no]) [] [2] [] (Qa (jDj ha7) q)
   have q:=Qa (jEj ha7) q
   rcases io h with ⟨ha8,h⟩ | ⟨ha8,h⟩
   ·cases h
    exact rx 3 (o [b0,b1]) [] [2] [] (Qa (jDj ha8) q)
   cases h
   exact rn 3 (o [b0,b0]) [] [0,7] [2] (Qa (jEj ha8) q)
  have q:=Qa (jEj ha3) q
  let o l:=o (b0::.no::l)
  rcases io h with ⟨ha4,h⟩ | ⟨ha4,h⟩
  ·cases h
   exact rx 3 (o [b1,.no]) [] [2] [] (Qa (eqt ha4) q)
  have q:=Qa (eqf ha4) q
  rcases io h with ⟨ha5,h⟩ | ⟨ha5,h⟩
  ·cases h
   exact rn 3 (o [b0,b0,.no]) [] [0,7] [2] (Qa (nef ha5) q)
  have q:=Qa (net ha5) q
  let o l:=o (b0::b1::l)
  rcases io h with ⟨ha6,h⟩ | ⟨ha6,h⟩
  ·cases h
   exact rx 3 (o [b1,.no]) [] [2] [] (Qa (jDj ha6) q)
  have q:=Qa (jEj ha6) q
  rcases io h with ⟨ha7,h⟩ | ⟨ha7,h⟩
  ·cases h
   exact rx 3 (o [b0,b1]) [] [2] [] (Qa (jDj ha7) q)
  cases h
  exact rn 3 (o [b0,b0]) [] [0,7] [2] (Qa (jEj ha7) q)
 cases h
 exact rx 3 [b0,.no] [] [0] [] (Qa ha1 QL)
def Yi (n:Nat) (a0:jSj):Option (Bool) :=
 (Q2 (Wn n a0) n 0).bind fun t1=>match t1 with
  | (.inl t1)=>(
   some false)
  | (.inr t1)=>(
   if (!(a0.toList == (⟨#[]⟩:jSj).toList))=true then
    some (decide ((a0.size:Int)≤24))
   else
   some false)
theorem jm {n:Nat} {a0:jSj} {r:Bool} (h:Yi n a0=some r):Computes cx 113 [.v (.string a0)] (B r):=by
 unfold Yi at h
 obtain ⟨t1,h1,h⟩:=bo h
 rcases t1 with t1 | t1
 ·obtain rfl:=oi h
  exact rf [.lp [] [0,7] [2] .ret [(2,.d (B false))] [] 54] (Qa (QH JP h1) QL)
 have q:=Qa (QH JP h1) QL
 let o (l:List Orc):=.lp [] [0,7] [2] (.exit 0) [(0,.d (.v (.string a0)))] [] 54::l
 rcases io h with ⟨h2,h⟩ | ⟨h2,h⟩
 ·cases h
  exact rf (o [b1]) (Qa h2 q)
 obtain rfl:=oi h
 exact rf (o [b0]) (Qa (QA h2) q)
def Vs (n:Nat) (a0:jSj):Option (Int) :=
 (Yi n a0).bind fun t1 =>
 (Qm n (!t1) 8).bind fun t2 =>
 some t2
theorem G5 {n:Nat} {a0:jSj} {r:Int} (h:Vs n a0=some r):Computes cx 112 [.v (.string a0)] (I r):=by
 unfold Vs at h
 obtain ⟨t1,h1,h⟩:=bo h;obtain ⟨t2,h2,h⟩:=bo h;obtain rfl:=oi h
 exact rf [.ret (B t1),.ret (I t2)] (Qa (Qu h2) (Qa (jm h1) QL))
def WN (n:Nat) (a0:jVj) (sa:(Int×jVj)):Option (((Int×jVj))⊕((jVj))) :=
 if sa.1 < ((a0).length:Int) then
  (el Ww a0 sa.1).bind fun ta2 =>
  (Vs n ta2).bind fun ta3 =>
  if Wa 8 ((sa.2).length+1) then
  if Qh (sa.1+1) then
  some (.inl ((sa.1+1),(sa.2++([I ta3]:jVj))))
  else none
  else none
 else
 some (.inr sa.2)
noncomputable def X5 (a0:jVj):Lp ((Int×jVj)) ((jVj)):=⟨fun sa=>[(1,.d (.fn (.func 112) [] [])),(5,.own 5 0),(8,.d (.lst false 1 a0)),(9,.d (I ((a0).length:Int))),(10,.d (I sa.1))],fun sa=>[(5,.row 0 1 sa.2)],fun _=>(.exit 0),fun _=>[(5,.own 5 0)],fun e=>[(5,.row 0 1 e)]⟩
theorem X2 {n:Nat} {a0:jVj} (sa:(Int×jVj)) (r) (h:WN n a0 sa=some r):Rl (ZJ cx.P 111 0) 22 0 false (X5 a0) sa r:=by
 unfold WN at h
 rcases io h with ⟨ha1,h⟩ | ⟨ha1,h⟩
 ·obtain ⟨ta2,ha2,h⟩:=bo h;obtain ⟨ta3,ha3,h⟩:=bo h;obtain ⟨ha4,h⟩:=gd h;obtain ⟨ha5,h⟩:=gd h
  cases h
  exact rn 6 [b1,.el (Zy ta2),.ret (I ta3),b1] [] [1,5,8,9,10] [5] (Qa ha5 (Qa (ro 25 ha4) (Qa (G5 ha3) (allE Qr ha2 (Qa (jDj ha1) QL)))))
 cases h
 exact rx 6 [b0] [] [5] [5] (Qa (jEj ha1) QL)
def Wf (n:Nat) (a0:jVj):Option (jVj) :=
 (Q2 (WN n a0) n (0,[])).bind fun t1 =>
 some t1
theorem Yp {n:Nat} {a0:jVj} {r:jVj} (h:Wf n a0=some r):Computes cx 111 [.lst false 1 a0,.fn (.func 112) [] []] (.lst false 1 r):=by
 unfold Wf at h
 obtain ⟨t1,h1,h⟩:=bo h;obtain rfl:=oi h
 exact rf [.lp [5,1] [1,5,8,9,10] [5] (.exit 0) [(5,.own 5 0)] [(5,.row 0 1 t1)] 30] (Qa (QH X2 h1) QL)
def Vr (n:Nat) (a0:Int):Option (Int) :=
 (ZE n a0 0 999999999).bind fun t1 =>
 some t1
theorem G4 {n:Nat} {a0:Int} {r:Int} (h:Vr n a0=some r):Computes cx 115 [I a0] (I r):=by
 unfold Vr at h
 obtain ⟨t1,h1,h⟩:=bo h;obtain rfl:=oi h
 exact rf [.ret (I t1)] (Qa (WK h1) QL)
def Wp (n:Nat) (a0:jVj) (sa:(Int×jVj)):Option (((Int×jVj))⊕((jVj))) :=
 if sa.1 < ((a0).length:Int) then
  (el Vt a0 sa.1).bind fun ta2 =>
  (Vr n ta2).bind fun ta3 =>
  if Wa 8 ((sa.2).length+1) then
  if Qh (sa.1+1) then
  some (.inl ((sa.1+1),(sa.2++([I ta3]:jVj))))
  else none
  else none
 else
 some (.inr sa.2)
noncomputable def Xa (a0:jVj):Lp ((Int×jVj)) ((jVj)):=⟨fun sa=>[(1,.d (.fn (.func 115) [] [])),(5,.own 5 0),(8,.d (.lst false 1 a0)),(9,.d (I ((a0).length:Int))),(10,.d (I sa.1))],fun sa=>[(5,.row 0 1 sa.2)],fun _=>(.exit 0),fun _=>[(5,.own 5 0)],fun e=>[(5,.row 0 1 e)]⟩
theorem G6 {n:Nat} {a0:jVj} (sa:(Int×jVj)) (r) (h:Wp n a0 sa=some r):Rl (ZJ cx.P 114 0) 22 0 false (Xa a0) sa r:=by
 unfold Wp at h
 rcases io h with ⟨ha1,h⟩ | ⟨ha1,h⟩
 ·obtain ⟨ta2,ha2,h⟩:=bo h;obtain ⟨ta3,ha3,h⟩:=bo h;obtain ⟨ha4,h⟩:=gd h;obtain ⟨ha5,h⟩:=gd h
  cases h
  exact rn 6 [b1,.el (Q3 ta2),.ret (I ta3),b1] [] [1,5,8,9,10] [5] (Qa ha5 (Qa (ro 25 ha4) (Qa (G4 ha3) (allE Qi ha2 (Qa (jDj ha1) QL)))))
 cases h
 exact rx 6 [b0] [] [5] [5] (Qa (jEj ha1) QL)
def ZU (n:Nat) (a0:jVj):Option (jVj) :=
 (Q2 (Wp n a0) n (0,[])).bind fun t1 =>
 some t1
theorem VT {n:Nat} {a0:jVj} {r:jVj} (h:ZU n a0=some r):Computes cx 114 [.lst false 1 a0,.fn (.func 115) [] []] (.lst false 1 r):=by
 unfold ZU at h
 obtain ⟨t1,h1,h⟩:=bo h;obtain rfl:=oi h
 exact rf [.lp [5,1] [1,5,8,9,10] [5] (.exit 0) [(5,.own 5 0)] [(5,.row 0 1 t1)] 30] (Qa (QH G6 h1) QL)
def VN (n:Nat)  : Option (Int) :=
 some 2
theorem Xu {n:Nat}  {r:Int} (h:VN n =some r):Computes cx 69 [B true,I 2] (I r):=by
 unfold VN at h
 obtain rfl:=oi h
 exact rf [.no] QL
def Uo (n:Nat)  : Option (Int) :=
 some 13
theorem ji {n:Nat}  {r:Int} (h:Uo n =some r):Computes cx 69 [B true,I 13] (I r):=by
 unfold Uo at h
 obtain rfl:=oi h
 exact rf [.no] QL
def WX (n:Nat) (a0:Int) (a1:jSj) (a2 a3:jVj) (a4:jSj):Option (Int) :=
 if (VY (.string a1) Wr).isSome=true then
  ((VY (.string a1) Wr).bind J8).bind fun t2 =>
  (ZE n a0 1 1000).bind fun t3 =>
  (Up n).bind fun t4 =>
  if ((a2).length:Int)=(t2.1.size:Int) then
   (Qm n (((a3).length:Int) != t2.2.1) 2).bind fun t6 =>
   (Qo n ([I t3,I t4,I t6])).bind fun t7 =>
   if t7=0 then
    (Wf n a2).bind fun t9 =>
    (Qo n t9).bind fun t10 =>
    (ZU n a3).bind fun t11 =>
    (Qo n t11).bind fun t12 =>
    (Qm n (!(a4.toList == (⟨#[]⟩:jSj).toList)) 1).bind fun t13 =>
    (Qo n ([I t10,I t12,I t13])).bind fun t14 =>
    some t14
   else
   some t7
  else
  (VN n).bind fun t6 =>
  (Qo n ([I t3,I t4,I t6])).bind fun t7 =>
  if t7=0 then
   (Wf n a2).bind fun t9 =>
   (Qo n t9).bind fun t10 =>
   (ZU n a3).bind fun t11 =>
   (Qo n t11).bind fun t12 =>
   (Qm n (!(a4.toList == (⟨#[]⟩:jSj).toList)) 1).bind fun t13 =>
   (Qo n ([I t10,I t12,I t13])).bind fun t14 =>
   some t14
  else
  some t7
 else
 (ZE n a0 1 1000).bind fun t2 =>
 (Uo n).bind fun t3 =>
 if ((a2).length:Int)=0 then
  (Qm n (((a3).length:Int) != 0) 2).bind fun t5 =>
  (Qo n ([I t2,I t3,I t5])).bind fun t6 =>
  if t6=0 then
   (Wf n a2).bind fun t8 =>
   (Qo n t8).bind fun t9 =>
   (ZU n a3).bind fun t10 =>
   (Qo n t10).bind fun t11 =>
   (Qm n (!(a4.toList == (⟨#[]⟩:jSj).toList)) 1).bind fun t12 =>
   (Qo n ([I t9,I t11,I t12])).bind fun t13 =>
   some t13
  else
  some t6
 else
 (VN n).bind fun t5 =>
 (Qo n ([I t2,I t3,I t5])).bind fun t6 =>
 if t6=0 then
  (Wf n a2).bind fun t8 =>
  (Qo n t8).bind fun t9 =>
  (ZU n a3).bind fun t10 =>
  (Qo n t10).bind fun t11 =>
  (Qm n (!(a4.toList == (⟨#[]⟩:jSj).toList)) 1).bind fun t12 =>
  (Qo n ([I t9,I t11,I t12])).bind fun t13 =>
  some t13
 else
 some t6
theorem Ja {n:Nat} {a0:Int} {a1:jSj} {a2 a3:jVj} {a4:jSj} {r:Int} (h:WX n a0 a1 a2 a3 a4=some r):Computes cx 55 [.agg [I a0,.v (.string a1),.lst false 1 a2,.lst false 1 a3,.v (.string a4)]] (I r):=by
 unfold WX at h
 let o (l:List Orc):=b1::(no 28 l)
 rcases io h with ⟨h1,h⟩ | ⟨h1,h⟩
 ·obtain ⟨t2,h2,h⟩:=bo h;obtain ⟨t3,h3,h⟩:=bo h;obtain ⟨t4,h4,h⟩:=bo h
  have q:=Qa (jj h4) (Qa (WK h3) (Qa ((QbG (by kernel_rfl) (Qdv yf h2)):Zi true (.string a1) (.agg [.v (.string ⟨#[]⟩),I 0,.v (.nilFunc),.v (.nilFunc)]) Wr=some (.tup [.agg [.v (.string t2.1),I t2.2.1,.fn t2.2.2.1.1 t2.2.2.1.2.1 t2.2.2.1.2.2,.fn t2.2.2.2.1 t2.2.2.2.2.1 t2.2.2.2.2.2],B true])) QL))
  let o l:=o (.el (.tup [.agg [.v (.string t2.1),I t2.2.1,.fn t2.2.2.1.1 t2.2.2.1.2.1 t2.2.2.1.2.2,.fn t2.2.2.2.1 t2.2.2.2.2.1 t2.2.2.2.2.2],B true])::.ret (I t3)::.ret (I t4)::l)
  rcases io h with ⟨h5,h⟩ | ⟨h5,h⟩
  ·obtain ⟨t6,h6,h⟩:=bo h;obtain ⟨t7,h7,h⟩:=bo h
   have q:=Qa (((Qx h7).le (.cons (.full _ _ _) (.nil)) (.refl _)):Computes cx 67 [.lst true 1 [I t3,I t4,I t6]] (I t7)) (Qa (Qu h6) (Qa (nef h5) q))
   let o l:=o (b0::.ret (I t6)::.ret (I t7)::l)
   rcases io h with ⟨h8,h⟩ | ⟨h8,h⟩
   ·obtain ⟨t9,h9,h⟩:=bo h;obtain ⟨t10,h10,h⟩:=bo h;obtain ⟨t11,h11,h⟩:=bo h;obtain ⟨t12,h12,h⟩:=bo h;obtain ⟨t13,h13,h⟩:=bo h;obtain ⟨t14,h14,h⟩:=bo h;obtain rfl:=oi h
    exact rf (o [b0,.ret (.lst false 1 t9),.ret (I t10),.ret (.lst false 1 t11),.ret (I t12),.ret (I t13),.ret (I t14)]) (Qa (((Qx h14).le (.cons (.full _ _ _) (.nil)) (.refl _)):Computes cx 67 [.lst true 1 [I t10,I t12,I t13]] (I t14)) (Qa (Qu h13) (Qa (Qx h12) (Qa (VT h11) (Qa (Qx h10) (Qa (Yp h9) (Qa (nef h8) q)))))))
   obtain rfl:=oi h
   exact rf (o [b1]) (Qa (net h8) q)
  obtain ⟨t6,h6,h⟩:=bo h;obtain ⟨t7,h7,h⟩:=bo h
  have q:=Qa (((Qx h7).le (.cons (.full _ _ _) (.nil)) (.refl _)):Computes cx 67 [.lst true 1 [I t3,I t4,I t6]] (I t7)) (Qa (Xu h6) (Qa (net h5) q))
  let o l:=o (b1::.ret (I t6)::.ret (I t7)::l)
  rcases io h with ⟨h8,h⟩ | ⟨h8,h⟩
  ·obtain ⟨t9,h9,h⟩:=bo h;obtain ⟨t10,h10,h⟩:=bo h;obtain ⟨t11,h11,h⟩:=bo h;obtain ⟨t12,h12,h⟩:=bo h;obtain ⟨t13,h13,h⟩:=bo h;obtain ⟨t14,h14,h⟩:=bo h;obtain rfl:=oi h
   exact rf (o [b0,.ret (.lst false 1 t9),.ret (I t10),.ret (.lst false 1 t11),.ret (I t12),.ret (I t13),.ret (I t14)]) (Qa (((Qx h14).le (.cons (.full _ _ _) (.nil)) (.refl _)):Computes cx 67 [.lst true 1 [I t10,I t12,I t13]] (I t14)) (Qa (Qu h13) (Qa (Qx h12) (Qa (VT h11) (Qa (Qx h10) (Qa (Yp h9) (Qa (nef h8) q)))))))
  obtain rfl:=oi h
  exact rf (o [b1]) (Qa (net h8) q)
 obtain ⟨t2,h2,h⟩:=bo h;obtain ⟨t3,h3,h⟩:=bo h
 have q:=Qa (ji h3) (Qa (WK h2) (Qa ((QaB (by kernel_rfl) (mno h1)):Zi true (.string a1) (.agg [.v (.string ⟨#[]⟩),I 0,.v (.nilFunc),.v (.nilFunc)]) Wr=some (.tup [.agg [.v (.string ⟨#[]⟩),I 0,.v (.nilFunc),.v (.nilFunc)],B false])) QL))
 let o l:=o (.el (.tup [.agg [.v (.string ⟨#[]⟩),I 0,.v (.nilFunc),.v (.nilFunc)],B false])::.ret (I t2)::.ret (I t3)::l)
 rcases io h with ⟨h4,h⟩ | ⟨h4,h⟩
 ·obtain ⟨t5,h5,h⟩:=bo h;obtain ⟨t6,h6,h⟩:=bo h
  have q:=Qa (((Qx h6).le (.cons (.full _ _ _) (.nil)) (.refl _)):Computes cx 67 [.lst true 1 [I t2,I t3,I t5]] (I t6)) (Qa (Qu h5) (Qa (nef h4) q))
  let o l:=o (b0::.ret (I t5)::.ret (I t6)::l)
  rcases io h with ⟨h7,h⟩ | ⟨h7,h⟩
  ·obtain ⟨t8,h8,h⟩:=bo h;obtain ⟨t9,h9,h⟩:=bo h;obtain ⟨t10,h10,h⟩:=bo h;obtain ⟨t11,h11,h⟩:=bo h;obtain ⟨t12,h12,h⟩:=bo h;obtain ⟨t13,h13,h⟩:=bo h;obtain rfl:=oi h
   exact rf (o [b0,.ret (.lst false 1 t8),.ret (I t9),.ret (.lst false 1 t10),.ret (I t11),.ret (I t12),.ret (I t13)]) (Qa (((Qx h13).le (.cons (.full _ _ _) (.nil)) (.refl _)):Computes cx 67 [.lst true 1 [I t9,I t11,I t12]] (I t13)) (Qa (Qu h12) (Qa (Qx h11) (Qa (VT h10) (Qa (Qx h9) (Qa (Yp h8) (Qa (nef h7) q)))))))
  obtain rfl:=oi h
  exact rf (o [b1]) (Qa (net h7) q)
 obtain ⟨t5,h5,h⟩:=bo h;obtain ⟨t6,h6,h⟩:=bo h
 have q:=Qa (((Qx h6).le (.cons (.full _ _ _) (.nil)) (.refl _)):Computes cx 67 [.lst true 1 [I t2,I t3,I t5]] (I t6)) (Qa (Xu h5) (Qa (net h4) q))
 let o l:=o (b1::.ret (I t5)::.ret (I t6)::l)
 rcases io h with ⟨h7,h⟩ | ⟨h7,h⟩
 ·obtain ⟨t8,h8,h⟩:=bo h;obtain ⟨t9,h9,h⟩:=bo h;obtain ⟨t10,h10,h⟩:=bo h;obtain ⟨t11,h11,h⟩:=bo h;obtain ⟨t12,h12,h⟩:=bo h;obtain ⟨t13,h13,h⟩:=bo h;obtain rfl:=oi h
  exact rf (o [b0,.ret (.lst false 1 t8),.ret (I t9),.ret (.lst false 1 t10),.ret (I t11),.ret (I t12),.ret (I t13)]) (Qa (((Qx h13).le (.cons (.full _ _ _) (.nil)) (.refl _)):Computes cx 67 [.lst true 1 [I t9,I t11,I t12]] (I t13)) (Qa (Qu h12) (Qa (Qx h11) (Qa (VT h10) (Qa (Qx h9) (Qa (Yp h8) (Qa (nef h7) q)))))))
 obtain rfl:=oi h
 exact rf (o [b1]) (Qa (net h7) q)
def Un (n:Nat)  : Option (Int) :=
 some 21
theorem jh {n:Nat}  {r:Int} (h:Un n =some r):Computes cx 69 [B true,I 21] (I r):=by
 unfold Un at h
 obtain rfl:=oi h
 exact rf [.no] QL
theorem mk1 (c:jSj) (r:D) {k:jSj} {l:List UInt8} (h:k.data.toList=l) (hc:c.data.toList=l:=by rfl) (hl:Zi false (.string c) (.agg [.v (.string ⟨#[]⟩),I 0,.v (.nilFunc),.v (.nilFunc)]) Wr=some r:=by kernel_rfl):Zi false (.string k) (.agg [.v (.string ⟨#[]⟩),I 0,.v (.nilFunc),.v (.nilFunc)]) Wr=some r:=QO h hc hl
def QB (x:jSj×jSj×Int×Int×Bool×Bool):D:=.agg [.v (.string x.1),.v (.string x.2.1),I x.2.2.1,I x.2.2.2.1,B x.2.2.2.2.1,B x.2.2.2.2.2]
def QM:D→Option (jSj×jSj×Int×Int×Bool×Bool)
 | .agg [c0,c1,c2,c3,c4,c5]=>(JR c0).bind fun y0=>(JR c1).bind fun y1=>(Ya .i64 c2).bind fun y2=>(Ya .i64 c3).bind fun y3=>(Gw c4).bind fun y4=>(Gw c5).bind fun y5=>some (y0,y1,y2,y3,y4,y5)
 | _=>none
theorem Qq {d:D} {x:jSj×jSj×Int×Int×Bool×Bool} (h:QM d=some x):d=QB x:=by
 unfold QM at h
 split at h
 case h_2=>cases h
 obtain ⟨y0,h0,h⟩:=ZX h
 obtain ⟨y1,h1,h⟩:=ZX h
 obtain ⟨y2,h2,h⟩:=ZX h
 obtain ⟨y3,h3,h⟩:=ZX h
 obtain ⟨y4,h4,h⟩:=ZX h
 obtain ⟨y5,h5,h⟩:=ZX h
 cases h
 have e0:=YU h0
 have e1:=YU h1
 have e2:=WS h2
 have e3:=WS h3
 have e4:=KG h4
 have e5:=KG h5
 rw [e0,e1,e2,e3,e4,e5];rfl
def Z0 (n:Nat) (a0 a1:jVj) (a2 a3:Int) (a4 a5:Bool) (a6 a7 a8:Int) (a9 a10 a11:jVj) (sa:(Int×Int)):Option (((Int×Int))⊕((Int))) :=
 if sa.1 < ((a10).length:Int) then
  if 0≤sa.1∧sa.1 < ((a10).length:Int) then
  ((nth (a10) (Int.toNat sa.1)).bind QM).bind fun ta3 =>
  if ta3.2.2.2.2.2=true then
   if Qh (1000 - ta3.2.2.2.1) then
   if Qh (ta3.2.2.1 * (1000 - ta3.2.2.2.1)) then
   if Qh ((ta3.2.2.1 * (1000 - ta3.2.2.2.1)) * a3) then
   if Qh (sa.2+((ta3.2.2.1 * (1000 - ta3.2.2.2.1)) * a3)) then
   if Qh (sa.1+1) then
   some (.inl ((sa.1+1),(sa.2+((ta3.2.2.1 * (1000 - ta3.2.2.2.1)) * a3))))
   else none
   else none
   else none
   else none
   else none
  else
  if Qh (sa.1+1) then
  some (.inl ((sa.1+1),sa.2))
  else none
  else none
 else
 some (.inr sa.2)
noncomputable def J5 (a0 a1:jVj) (a2 a3:Int) (a4 a5:Bool) (a6 a7 a8:Int) (a9 a10 a11:jVj):Lp ((Int×Int)) ((Int)):=⟨fun sa=>[(0,.own 23 0),(8,.own 11 0),(9,.d (I ((a10).length:Int))),(10,.d (I sa.1))],fun sa=>[(0,.box (.agg [.own 1 0,.own 2 0,.d (I a2),.d (I a3),.d (B a4),.d (B a5),.d (I a6),.d (I a7),.d (I a8),.own 10 0,.own 11 0,.own 12 0])),(1,.row 0 5 a0),(2,.row 0 5 a1),(10,.row 0 1 a9),(11,.row 0 6 a10),(12,.row 0 7 a11),(13,.box (.ptr 0 0 0 0 2)),(15,.box (.d (I sa.2))),(19,.box (.ptr 0 0 0 0 2)),(23,.loop true [(6,.fn (.func 118) [] [.ptr 19 0 0 0 0]),(5,.ptr 0 0 0 0 2),(3,.ptr 15 0 0 0 0),(2,.d (I 0)),(1,.ptr 13 0 0 0 0),(0,.ptr 0 0 0 0 2)] [7] (ZY cx.P 62 0).1 (ZY cx.P 62 0).2 22)],fun _=>(.exit 0),fun _=>[],fun e=>[(0,.box (.agg [.own 1 0,.own 2 0,.d (I a2),.d (I a3),.d (B a4),.d (B a5),.d (I a6),.d (I a7),.d (I a8),.own 10 0,.own 11 0,.own 12 0])),(1,.row 0 5 a0),(2,.row 0 5 a1),(10,.row 0 1 a9),(11,.row 0 6 a10),(12,.row 0 7 a11),(13,.box (.ptr 0 0 0 0 2)),(15,.box (.d (I e))),(19,.box (.ptr 0 0 0 0 2)),(23,.loop true [(6,.fn (.func 118) [] [.ptr 19 0 0 0 0]),(5,.ptr 0 0 0 0 2),(3,.ptr 15 0 0 0 0),(2,.d (I 0)),(1,.ptr 13 0 0 0 0),(0,.ptr 0 0 0 0 2)] [7] (ZY cx.P 62 0).1 (ZY cx.P 62 0).2 22)]⟩
theorem J3 {n:Nat} {a0 a1:jVj} {a2 a3:Int} {a4 a5:Bool} {a6 a7 a8:Int} {a9 a10 a11:jVj} (sa:(Int×Int)) (r) (h:Z0 n a0 a1 a2 a3 a4 a5 a6 a7 a8 a9 a10 a11 sa=some r):Rl (ZJ cx.P 118 0) 23 24 false (J5 a0 a1 a2 a3 a4 a5 a6 a7 a8 a9 a10 a11) sa r:=by
 unfold Z0 at h
 rcases io h with ⟨ha1,h⟩ | ⟨ha1,h⟩
 ·obtain ⟨ha2,h⟩:=gd h;obtain ⟨ta3,ha3,h⟩:=bo h
  have q:=Qa (QX Qq ha3) (Qa ha2 (Qa (jDj ha1) QL))
  let o (l:List Orc):=b1::b1::.el (QB ta3)::l
  rcases io h with ⟨ha4,h⟩ | ⟨ha4,h⟩
  ·obtain ⟨ha5,h⟩:=gd h;obtain ⟨ha6,h⟩:=gd h;obtain ⟨ha7,h⟩:=gd h;obtain ⟨ha8,h⟩:=gd h;obtain ⟨ha9,h⟩:=gd h
   cases h
   exact rn 30 (o [b1,.no]) [] [0,8,9,10] [0,1,2,10,11,12,13,15,19,23] (Qa ha9 (Qa ha8 (Qa ha7 (Qa ha6 (Qa ha5 (Qa ha4 q))))))
  obtain ⟨ha5,h⟩:=gd h
  cases h
  exact rn 30 (o [b0,.no]) [] [0,8,9,10] [0,1,2,10,11,12,13,15,19,23] (Qa ha5 (Qa (QA ha4) q))
 cases h
 exact rx 30 [b0] [] [] [0,1,2,10,11,12,13,15,19,23] (Qa (jEj ha1) QL)
def Wq (n:Nat) (a0 a1:jVj) (a2 a3:Int) (a4 a5:Bool) (a6 a7 a8:Int) (a9 a10 a11:jVj):Option (Int) :=
 (Q2 (Z0 n a0 a1 a2 a3 a4 a5 a6 a7 a8 a9 a10 a11) n (0,0)).bind fun t1 =>
 some t1
theorem Ut {n:Nat} {a0 a1:jVj} {a2 a3:Int} {a4 a5:Bool} {a6 a7 a8:Int} {a9 a10 a11:jVj} {r:Int} (h:Wq n a0 a1 a2 a3 a4 a5 a6 a7 a8 a9 a10 a11=some r):ComputesO cx 62 [.ptr 0 0 0 0 2] (some (Qb a0 a1 a2 a3 a4 a5 a6 a7 a8 a9 a10 a11)) (.d (I r)) (Qb a0 a1 a2 a3 a4 a5 a6 a7 a8 a9 a10 a11) ZV:=by
 unfold Wq at h
 obtain ⟨t1,h1,h⟩:=bo h;obtain rfl:=oi h
 exact rfO 0 [b1,.lp [] [0,8,9,10] [0,1,2,10,11,12,13,15,19,23] (.exit 0) [] [(0,.box (.agg [.own 1 0,.own 2 0,.d (I a2),.d (I a3),.d (B a4),.d (B a5),.d (I a6),.d (I a7),.d (I a8),.own 10 0,.own 11 0,.own 12 0])),(1,.row 0 5 a0),(2,.row 0 5 a1),(10,.row 0 1 a9),(11,.row 0 6 a10),(12,.row 0 7 a11),(13,.box (.ptr 0 0 0 0 2)),(15,.box (.d (I t1))),(19,.box (.ptr 0 0 0 0 2)),(23,.loop true [(6,.fn (.func 118) [] [.ptr 19 0 0 0 0]),(5,.ptr 0 0 0 0 2),(3,.ptr 15 0 0 0 0),(2,.d (I 0)),(1,.ptr 13 0 0 0 0),(0,.ptr 0 0 0 0 2)] [7] (ZY cx.P 62 0).1 (ZY cx.P 62 0).2 22)] 72] (Qa (QH J3 h1) QL)
def Q8 (n:Nat) (a0:Int) (a1 a2:jVj) (a3 a4:Int) (a5 a6:Bool) (a7 a8 a9:Int) (a10 a11 a12:jVj):Option (Int×Int) :=
 (Wq n a1 a2 a3 a4 a5 a6 a7 a8 a9 a10 a11 a12).bind fun t1 =>
 if Qh (a0 - a3) then
 if Qh (t1 * (a0 - a3)) then
 if Qh (a7+(t1 * (a0 - a3))) then
 if Qh (a8+(t1 * (a0 - a3))) then
 some ((a7+(t1 * (a0 - a3))),(a8+(t1 * (a0 - a3))))
 else none
 else none
 else none
 else none
theorem WA {n:Nat} {a0:Int} {a1 a2:jVj} {a3 a4:Int} {a5 a6:Bool} {a7 a8 a9:Int} {a10 a11 a12:jVj} {r:Int×Int} (h:Q8 n a0 a1 a2 a3 a4 a5 a6 a7 a8 a9 a10 a11 a12=some r):ComputesO cx 71 [.ptr 0 0 0 0 2,.d (I a0)] (some (Qb a1 a2 a3 a4 a5 a6 a7 a8 a9 a10 a11 a12)) (.d (.agg [I r.1,I r.2])) (Qb a1 a2 a3 a4 a5 a6 a7 a8 a9 a10 a11 a12) ZV:=by
 unfold Q8 at h
 obtain ⟨t1,h1,h⟩:=bo h;obtain ⟨h2,h⟩:=gd h;obtain ⟨h3,h⟩:=gd h;obtain ⟨h4,h⟩:=gd h;obtain ⟨h5,h⟩:=gd h
 cases h
 exact rfO 0 [.obj (some 0) (.d (I t1)) (Qb a1 a2 a3 a4 a5 a6 a7 a8 a9 a10 a11 a12) ZV] (Qa h5 (Qa h4 (Qa h3 (Qa h2 (Qa (Ut h1) QL)))))
def Qp (n:Nat) (a0:Int) (a1 a2:jVj) (a3 a4:Int) (a5 a6:Bool) (a7 a8 a9:Int) (a10 a11 a12:jVj):Option (Int) :=
 (Q8 n a0 a1 a2 a3 a4 a5 a6 a7 a8 a9 a10 a11 a12).bind fun t1 =>
 (Qm n (!((t1.1 == (minI t1.1 1000000000000000)) && ((t1.2 == (minI t1.2 1000000000000000)) && true))) 4).bind fun t2 =>
 some t2
theorem Qv {n:Nat} {a0:Int} {a1 a2:jVj} {a3 a4:Int} {a5 a6:Bool} {a7 a8 a9:Int} {a10 a11 a12:jVj} {r:Int} (h:Qp n a0 a1 a2 a3 a4 a5 a6 a7 a8 a9 a10 a11 a12=some r):ComputesO cx 70 [.ptr 0 0 0 0 2,.d (I a0)] (some (Qb a1 a2 a3 a4 a5 a6 a7 a8 a9 a10 a11 a12)) (.d (I r)) (Qb a1 a2 a3 a4 a5 a6 a7 a8 a9 a10 a11 a12) ZV:=by
 unfold Qp at h
 obtain ⟨t1,h1,h⟩:=bo h;obtain ⟨t2,h2,h⟩:=bo h;obtain rfl:=oi h
 exact rfO 0 [.obj (some 0) (.d (.agg [I t1.1,I t1.2])) (Qb a1 a2 a3 a4 a5 a6 a7 a8 a9 a10 a11 a12) ZV,.ret (I t2)] (Qa (Qu h2) (Qa (WA h1) QL))
def Wj (n:Nat) (a0:jVj) (a1:jSj) (sa:(Int)):Option (((Int))⊕((Int)⊕(Unit))) :=
 if sa < ((a0).length:Int) then
  (el Ww a0 sa).bind fun ta2 =>
  if (a1.toList == ta2.toList)=true then
   some (.inr (.inl sa))
  else
  if Qh (sa+1) then
  some (.inl (sa+1))
  else none
 else
 some (.inr (.inr ()))
noncomputable def X3 (a0:jVj) (a1:jSj):Lp ((Int)) ((Int)⊕(Unit)):=⟨fun sa=>[(0,.d (.lst false 1 a0)),(1,.d (.v (.string a1))),(7,.d (I ((a0).length:Int))),(8,.d (I sa))],fun _=>[],fun
 | (.inl e)=>.ret
 | (.inr e)=>(.exit 0),fun
 | (.inl e)=>[(4,.d (I e))]
 | (.inr e)=>[],fun _=>[]⟩
theorem Kh {n:Nat} {a0:jVj} {a1:jSj} (sa:(Int)) (r) (h:Wj n a0 a1 sa=some r):Rl (ZJ cx.P 122 0) 19 0 false (X3 a0 a1) sa r:=by
 unfold Wj at h
 rcases io h with ⟨ha1,h⟩ | ⟨ha1,h⟩
 ·obtain ⟨ta2,ha2,h⟩:=bo h
  have q:=allE Qr ha2 (Qa (jDj ha1) QL)
  rcases io h with ⟨ha3,h⟩ | ⟨ha3,h⟩
  ·cases h
   exact rx 4 [b1,.el (Zy ta2),b1] [] [4] [] (Qa ha3 q)
  obtain ⟨ha4,h⟩:=gd h
  cases h
  exact rn 4 [b1,.el (Zy ta2),b0] [] [0,1,7,8] [] (Qa ha4 (Qa (QA ha3) q))
 cases h
 exact rx 4 [b0] [] [] [] (Qa (jEj ha1) QL)
def QE (n:Nat) (a0:jVj) (a1:jSj):Option (Int) :=
 (Q2 (Wj n a0 a1) n 0).bind fun t1=>match t1 with
  | (.inl t1)=>(
   some t1)
  | (.inr t1)=>(
   some (-1))
theorem QK {n:Nat} {a0:jVj} {a1:jSj} {r:Int} (h:QE n a0 a1=some r):Computes cx 122 [.lst false 1 a0,.v (.string a1)] (I r):=by
 unfold QE at h
 obtain ⟨t1,h1,h⟩:=bo h
 rcases t1 with t1 | t1
 ·obtain rfl:=oi h
  exact rf [.lp [] [0,1,7,8] [] .ret [(4,.d (I t1))] [] 26] (Qa (QH Kh h1) QL)
 cases h
 exact rf [.lp [] [0,1,7,8] [] (.exit 0) [] [] 26] (Qa (QH Kh h1) QL)
def Zb (n:Nat) (a0:jVj) (a1:jSj):Option (Bool) :=
 (QE n a0 a1).bind fun t1 =>
 some (decide (t1 ≥ 0))
theorem Z2 {n:Nat} {a0:jVj} {a1:jSj} {r:Bool} (h:Zb n a0 a1=some r):Computes cx 120 [.lst false 1 a0,.v (.string a1)] (B r):=by
 unfold Zb at h
 obtain ⟨t1,h1,h⟩:=bo h
 cases h
 exact rf [.ret (I t1)] (Qa (QK h1) QL)
def ZN (n:Nat) (a0 a1:jSj) (a2 a3:Int) (a4 a5:Bool):Option (jSj) :=
 some a0
theorem Yw {n:Nat} {a0 a1:jSj} {a2 a3:Int} {a4 a5:Bool} {r:jSj} (h:ZN n a0 a1 a2 a3 a4 a5=some r):Computes cx 203 [.agg [.v (.string a0),.v (.string a1),I a2,I a3,B a4,B a5]] (.v (.string r)):=by
 unfold ZN at h
 obtain rfl:=oi h
 exact rf [] QL
def Q7 (x:jSj×Int×Int×Int×Int×Int×Bool):D:=.agg [.v (.string x.1),I x.2.1,I x.2.2.1,I x.2.2.2.1,I x.2.2.2.2.1,I x.2.2.2.2.2.1,B x.2.2.2.2.2.2]
def Z6:D→Option (jSj×Int×Int×Int×Int×Int×Bool)
 | .agg [c0,c1,c2,c3,c4,c5,c6]=>(JR c0).bind fun y0=>(Ya .i64 c1).bind fun y1=>(Ya .i64 c2).bind fun y2=>(Ya .i64 c3).bind fun y3=>(Ya .i64 c4).bind fun y4=>(Ya .i64 c5).bind fun y5=>(Gw c6).bind fun y6=>some (y0,y1,y2,y3,y4,y5,y6)
 | _=>none
theorem Q0 {d:D} {x:jSj×Int×Int×Int×Int×Int×Bool} (h:Z6 d=some x):d=Q7 x:=by
 unfold Z6 at h
 split at h
 case h_2=>cases h
 obtain ⟨y0,h0,h⟩:=ZX h
 obtain ⟨y1,h1,h⟩:=ZX h
 obtain ⟨y2,h2,h⟩:=ZX h
 obtain ⟨y3,h3,h⟩:=ZX h
 obtain ⟨y4,h4,h⟩:=ZX h
 obtain ⟨y5,h5,h⟩:=ZX h
 obtain ⟨y6,h6,h⟩:=ZX h
 cases h
 have e0:=YU h0
 have e1:=WS h1
 have e2:=WS h2
 have e3:=WS h3
 have e4:=WS h4
 have e5:=WS h5
 have e6:=KG h6
 rw [e0,e1,e2,e3,e4,e5,e6];rfl
def ZM (n:Nat) (a0:jSj) (a1 a2 a3 a4 a5:Int) (a6:Bool):Option (jSj) :=
 some a0
theorem Yv {n:Nat} {a0:jSj} {a1 a2 a3 a4 a5:Int} {a6:Bool} {r:jSj} (h:ZM n a0 a1 a2 a3 a4 a5 a6=some r):Computes cx 205 [.agg [.v (.string a0),I a1,I a2,I a3,I a4,I a5,B a6]] (.v (.string r)):=by
 unfold ZM at h
 obtain rfl:=oi h
 exact rf [] QL
def ZP (n:Nat) (a1 a2:jVj) (a3 a4:Int) (a5 a6:Bool) (a7 a8 a9:Int) (a10 a11 a12:jVj) (sa:(Int×jVj)):Option (((Int×jVj))⊕((jVj))) :=
 if sa.1 < ((a11).length:Int) then
  if 0≤sa.1∧sa.1 < ((a11).length:Int) then
  ((nth (a11) (Int.toNat sa.1)).bind QM).bind fun ta3 =>
  (ZN n ta3.1 ta3.2.1 ta3.2.2.1 ta3.2.2.2.1 ta3.2.2.2.2.1 ta3.2.2.2.2.2).bind fun ta4 =>
  if Wa 16 ((sa.2).length+1) then
  if Qh (sa.1+1) then
  some (.inl ((sa.1+1),(sa.2++([.v (.string ta4)]:jVj))))
  else none
  else none
  else none
 else
 some (.inr sa.2)
noncomputable def Jr (a1 a2:jVj) (a3 a4:Int) (a5 a6:Bool) (a7 a8 a9:Int) (a10 a11 a12:jVj):Lp ((Int×jVj)) ((jVj)):=⟨fun sa=>[(1,.d (.fn (.func 203) [] [])),(5,.own 30 0),(8,.own 11 0),(9,.d (I ((a11).length:Int))),(10,.d (I sa.1))],fun sa=>[(0,.box (.agg [.own 1 0,.own 2 0,.d (I a3),.d (I a4),.d (B a5),.d (B a6),.d (I a7),.d (I a8),.d (I a9),.own 10 0,.own 11 0,.own 12 0])),(1,.row 0 5 a1),(2,.row 0 5 a2),(10,.row 0 1 a10),(11,.row 0 6 a11),(12,.row 0 7 a12),(30,.row 0 1 sa.2)],fun _=>(.exit 0),fun _=>[(5,.own 30 0)],fun e=>[(0,.box (.agg [.own 1 0,.own 2 0,.d (I a3),.d (I a4),.d (B a5),.d (B a6),.d (I a7),.d (I a8),.d (I a9),.own 10 0,.own 11 0,.own 12 0])),(1,.row 0 5 a1),(2,.row 0 5 a2),(10,.row 0 1 a10),(11,.row 0 6 a11),(12,.row 0 7 a12),(30,.row 0 1 e)]⟩
theorem Jo {n:Nat} {a1 a2:jVj} {a3 a4:Int} {a5 a6:Bool} {a7 a8 a9:Int} {a10 a11 a12:jVj} (sa:(Int×jVj)) (r) (h:ZP n a1 a2 a3 a4 a5 a6 a7 a8 a9 a10 a11 a12 sa=some r):Rl (ZJ cx.P 63 0) 22 25 false (Jr a1 a2 a3 a4 a5 a6 a7 a8 a9 a10 a11 a12) sa r:=by
 unfold ZP at h
 rcases io h with ⟨ha1,h⟩ | ⟨ha1,h⟩
 ·obtain ⟨ha2,h⟩:=gd h;obtain ⟨ta3,ha3,h⟩:=bo h;obtain ⟨ta4,ha4,h⟩:=bo h;obtain ⟨ha5,h⟩:=gd h;obtain ⟨ha6,h⟩:=gd h
  cases h
  exact rn 31 [b1,b1,.el (QB ta3),.ret (.v (.string ta4)),b1] [] [1,5,8,9,10] [0,1,2,10,11,12,30] (Qa ha6 (Qa (ro 9 ha5) (Qa (Yw ha4) (Qa (QX Qq ha3) (Qa ha2 (Qa (jDj ha1) QL))))))
 cases h
 exact rx 31 [b0] [] [5] [0,1,2,10,11,12,30] (Qa (jEj ha1) QL)
def ZO (n:Nat) (a1 a2:jVj) (a3 a4:Int) (a5 a6:Bool) (a7 a8 a9:Int) (a10 a11 a12:jVj) (sa:(Int×jVj)):Option (((Int×jVj))⊕((jVj))) :=
 if sa.1 < ((a12).length:Int) then
  if 0≤sa.1∧sa.1 < ((a12).length:Int) then
  ((nth (a12) (Int.toNat sa.1)).bind Z6).bind fun ta3 =>
  (ZM n ta3.1 ta3.2.1 ta3.2.2.1 ta3.2.2.2.1 ta3.2.2.2.2.1 ta3.2.2.2.2.2.1 ta3.2.2.2.2.2.2).bind fun ta4 =>
  if Wa 16 ((sa.2).length+1) then
  if Qh (sa.1+1) then
  some (.inl ((sa.1+1),(sa.2++([.v (.string ta4)]:jVj))))
  else none
  else none
  else none
 else
 some (.inr sa.2)
noncomputable def Jq (a1 a2:jVj) (a3 a4:Int) (a5 a6:Bool) (a7 a8 a9:Int) (a10 a11 a12:jVj):Lp ((Int×jVj)) ((jVj)):=⟨fun sa=>[(1,.d (.fn (.func 205) [] [])),(5,.own 30 0),(8,.own 12 0),(9,.d (I ((a12).length:Int))),(10,.d (I sa.1))],fun sa=>[(0,.box (.agg [.own 1 0,.own 2 0,.d (I a3),.d (I a4),.d (B a5),.d (B a6),.d (I a7),.d (I a8),.d (I a9),.own 10 0,.own 11 0,.own 12 0])),(1,.row 0 5 a1),(2,.row 0 5 a2),(10,.row 0 1 a10),(11,.row 0 6 a11),(12,.row 0 7 a12),(30,.row 0 1 sa.2)],fun _=>(.exit 0),fun _=>[(5,.own 30 0)],fun e=>[(0,.box (.agg [.own 1 0,.own 2 0,.d (I a3),.d (I a4),.d (B a5),.d (B a6),.d (I a7),.d (I a8),.d (I a9),.own 10 0,.own 11 0,.own 12 0])),(1,.row 0 5 a1),(2,.row 0 5 a2),(10,.row 0 1 a10),(11,.row 0 6 a11),(12,.row 0 7 a12),(30,.row 0 1 e)]⟩
theorem Jn {n:Nat} {a1 a2:jVj} {a3 a4:Int} {a5 a6:Bool} {a7 a8 a9:Int} {a10 a11 a12:jVj} (sa:(Int×jVj)) (r) (h:ZO n a1 a2 a3 a4 a5 a6 a7 a8 a9 a10 a11 a12 sa=some r):Rl (ZJ cx.P 204 0) 22 25 false (Jq a1 a2 a3 a4 a5 a6 a7 a8 a9 a10 a11 a12) sa r:=by
 unfold ZO at h
 rcases io h with ⟨ha1,h⟩ | ⟨ha1,h⟩
 ·obtain ⟨ha2,h⟩:=gd h;obtain ⟨ta3,ha3,h⟩:=bo h;obtain ⟨ta4,ha4,h⟩:=bo h;obtain ⟨ha5,h⟩:=gd h;obtain ⟨ha6,h⟩:=gd h
  cases h
  exact rn 31 [b1,b1,.el (Q7 ta3),.ret (.v (.string ta4)),b1] [] [1,5,8,9,10] [0,1,2,10,11,12,30] (Qa ha6 (Qa (ro 9 ha5) (Qa (Yv ha4) (Qa (QX Q0 ha3) (Qa ha2 (Qa (jDj ha1) QL))))))
 cases h
 exact rx 31 [b0] [] [5] [0,1,2,10,11,12,30] (Qa (jEj ha1) QL)
def Qw (n:Nat) (a0:Int) (a1 a2:jVj) (a3 a4:Int) (a5 a6:Bool) (a7 a8 a9:Int) (a10 a11 a12:jVj):Option (jVj) :=
 if a0=115 then
  none
 else
 if a0=109 then
  (Q2 (ZP n a1 a2 a3 a4 a5 a6 a7 a8 a9 a10 a11 a12) n (0,[])).bind fun t3 =>
  some t3
 else
 (Q2 (ZO n a1 a2 a3 a4 a5 a6 a7 a8 a9 a10 a11 a12) n (0,[])).bind fun t3 =>
 some t3
theorem QC {n:Nat} {a0:Int} {a1 a2:jVj} {a3 a4:Int} {a5 a6:Bool} {a7 a8 a9:Int} {a10 a11 a12:jVj} {r:jVj} (h:Qw n a0 a1 a2 a3 a4 a5 a6 a7 a8 a9 a10 a11 a12=some r):ComputesO cx 121 [.ptr 0 0 0 0 2,.d (.v (.int .u8 a0))] (some (Qb a1 a2 a3 a4 a5 a6 a7 a8 a9 a10 a11 a12)) (.d (.lst false 1 r)) (Qb a1 a2 a3 a4 a5 a6 a7 a8 a9 a10 a11 a12) ZV:=by
 unfold Qw at h
 rcases io h with ⟨h1,h⟩ | ⟨h1,h⟩
 ·cases h
 have q:=Qa (eqf h1) QL
 rcases io h with ⟨h2,h⟩ | ⟨h2,h⟩
 ·obtain ⟨t3,h3,h⟩:=bo h;obtain rfl:=oi h
  exact rfO 0 [b0,b1,b1,.lp [5,1] [1,5,8,9,10] [0,1,2,10,11,12,30] (.exit 0) [(5,.own 30 0)] [(0,.box (.agg [.own 1 0,.own 2 0,.d (I a3),.d (I a4),.d (B a5),.d (B a6),.d (I a7),.d (I a8),.d (I a9),.own 10 0,.own 11 0,.own 12 0])),(1,.row 0 5 a1),(2,.row 0 5 a2),(10,.row 0 1 a10),(11,.row 0 6 a11),(12,.row 0 7 a12),(30,.row 0 1 t3)] 56] (Qa (QH Jo h3) (Qa (eqt h2) q))
 obtain ⟨t3,h3,h⟩:=bo h;obtain rfl:=oi h
 exact rfO 0 [b0,b0,b1,.lp [5,1] [1,5,8,9,10] [0,1,2,10,11,12,30] (.exit 0) [(5,.own 30 0)] [(0,.box (.agg [.own 1 0,.own 2 0,.d (I a3),.d (I a4),.d (B a5),.d (B a6),.d (I a7),.d (I a8),.d (I a9),.own 10 0,.own 11 0,.own 12 0])),(1,.row 0 5 a1),(2,.row 0 5 a2),(10,.row 0 1 a10),(11,.row 0 6 a11),(12,.row 0 7 a12),(30,.row 0 1 t3)] 56] (Qa (QH Jn h3) (Qa (eqf h2) q))
def Qg (n:Nat) (a0:jSj) (a1:Int) (a2 a3:FnD) (a4:Int) (a5:jSj) (a6 a7:jVj) (a8:jSj) (a9 a10:jVj) (a11 a12:Int) (a13 a14:Bool) (a15 a16 a17:Int) (a18 a19 a20:jVj) (sa:(Bool×Int)):Option (((Bool×Int))⊕((Unit)⊕(Bool))) :=
 if sa.2 < (a0.size:Int) then
  (WQ a0 sa.2).bind fun ta2 =>
  if ta2 < 97 then
   if (IntKind.wrap .u8 (ta2+32))=115 then
    (el Ww a6 sa.2).bind fun ta5 =>
    (Zb n a18 ta5).bind fun ta6 =>
    if sa.1=true then
     if Qh (sa.2+1) then
     some (.inl (true,(sa.2+1)))
     else none
    else
    if Qh (sa.2+1) then
    some (.inl (ta6,(sa.2+1)))
    else none
   else
   (Qw n (IntKind.wrap .u8 (ta2+32)) a9 a10 a11 a12 a13 a14 a15 a16 a17 a18 a19 a20).bind fun ta5 =>
   (el Ww a6 sa.2).bind fun ta6 =>
   (Zb n ta5 ta6).bind fun ta7 =>
   if sa.1=true then
    if Qh (sa.2+1) then
    some (.inl (true,(sa.2+1)))
    else none
   else
   if Qh (sa.2+1) then
   some (.inl (ta7,(sa.2+1)))
   else none
  else
  if ta2=115 then
   (el Ww a6 sa.2).bind fun ta5 =>
   (Zb n a18 ta5).bind fun ta6 =>
   if ta6=true then
    if sa.1=true then
     if Qh (sa.2+1) then
     some (.inl (true,(sa.2+1)))
     else none
    else
    if Qh (sa.2+1) then
    some (.inl (false,(sa.2+1)))
    else none
   else
   some (.inr (.inl ()))
  else
  (Qw n ta2 a9 a10 a11 a12 a13 a14 a15 a16 a17 a18 a19 a20).bind fun ta5 =>
  (el Ww a6 sa.2).bind fun ta6 =>
  (Zb n ta5 ta6).bind fun ta7 =>
  if ta7=true then
   if sa.1=true then
    if Qh (sa.2+1) then
    some (.inl (true,(sa.2+1)))
    else none
   else
   if Qh (sa.2+1) then
   some (.inl (false,(sa.2+1)))
   else none
  else
  some (.inr (.inl ()))
 else
 some (.inr (.inr sa.1))
noncomputable def Js (a0:jSj) (a1:Int) (a2 a3:FnD) (a4:Int) (a5:jSj) (a6 a7:jVj) (a8:jSj) (a9 a10:jVj) (a11 a12:Int) (a13 a14:Bool) (a15 a16 a17:Int) (a18 a19 a20:jVj):Lp ((Bool×Int)) ((Unit)⊕(Bool)):=⟨fun sa=>[(0,.ptr 0 0 0 0 2),(4,.ptr 13 0 0 0 0),(5,.ptr 14 0 0 0 0),(7,.d (B sa.1)),(14,.d (I (a0.size:Int))),(15,.d (I sa.2))],fun _=>[(0,.box (.agg [.own 1 0,.own 2 0,.d (I a11),.d (I a12),.d (B a13),.d (B a14),.d (I a15),.d (I a16),.d (I a17),.own 10 0,.own 11 0,.own 12 0])),(1,.row 0 5 a9),(2,.row 0 5 a10),(10,.row 0 1 a18),(11,.row 0 6 a19),(12,.row 0 7 a20),(13,.box (.d (.agg [.v (.string a0),I a1,.fn a2.1 a2.2.1 a2.2.2,.fn a3.1 a3.2.1 a3.2.2]))),(14,.box (.d (.agg [I a4,.v (.string a5),.lst false 1 a6,.lst false 1 a7,.v (.string a8)])))],fun
 | (.inl e)=>.ret
 | (.inr e)=>(.exit 0),fun
 | (.inl e)=>[(6,.d (I 10))]
 | (.inr e)=>[(7,.d (B e))],fun _=>[(0,.box (.agg [.own 1 0,.own 2 0,.d (I a11),.d (I a12),.d (B a13),.d (B a14),.d (I a15),.d (I a16),.d (I a17),.own 10 0,.own 11 0,.own 12 0])),(1,.row 0 5 a9),(2,.row 0 5 a10),(10,.row 0 1 a18),(11,.row 0 6 a19),(12,.row 0 7 a20)]⟩
theorem Yx {n:Nat} {a0:jSj} {a1:Int} {a2 a3:FnD} {a4:Int} {a5:jSj} {a6 a7:jVj} {a8:jSj} {a9 a10:jVj} {a11 a12:Int} {a13 a14:Bool} {a15 a16 a17:Int} {a18 a19 a20:jVj} (sa:(Bool×Int)) (r) (h:Qg n a0 a1 a2 a3 a4 a5 a6 a7 a8 a9 a10 a11 a12 a13 a14 a15 a16 a17 a18 a19 a20 sa=some r):Rl (ZJ cx.P 123 0) 52 13 false (Js a0 a1 a2 a3 a4 a5 a6 a7 a8 a9 a10 a11 a12 a13 a14 a15 a16 a17 a18 a19 a20) sa r:=by
 unfold Qg at h
 rcases io h with ⟨ha1,h⟩ | ⟨ha1,h⟩
 ·obtain ⟨ta2,ha2,h⟩:=bo h
  have q:=Qa (Zq ha2:QV cx.P (Instr.index 9 (.string a0) (.int .i64 sa.2))=some (.int .u8 ta2)) (Qa (jDj ha1) QL)
  let o (l:List Orc):=b1::.el (.v (.int .u8 ta2))::l
  rcases io h with ⟨ha3,h⟩ | ⟨ha3,h⟩
  ·have q:=Qa (jDj ha3) q
   rcases io h with ⟨ha4,h⟩ | ⟨ha4,h⟩
   ·obtain ⟨ta5,ha5,h⟩:=bo h;obtain ⟨ta6,ha6,h⟩:=bo h
    have q:=Qa (Ud (jDj ha3)) (Qa (Z2 ha6) (allE Qr ha5 (Qa (eqt ha4) q)))
    let o l:=o (b1::.ix (-9)::b1::b1::.el (Zy ta5)::.ix 0::.ret (B ta6)::b0::.no::l)
    rcases io h with ⟨ha7,h⟩ | ⟨ha7,h⟩
    ·obtain ⟨ha8,h⟩:=gd h
     cases h
     exact rn 21 (o [b1]) [] [0,4,5,7,14,15] [0,1,2,10,11,12,13,14] (Qa ha8 (Qa ha7 q))
    obtain ⟨ha8,h⟩:=gd h
    cases h
    exact rn 21 (o [b0,b1]) [] [0,4,5,7,14,15] [0,1,2,10,11,12,13,14] (Qa ha8 (Qa (jDj ha3) (Qa (QA ha7) q)))
   obtain ⟨ta5,ha5,h⟩:=bo h;obtain ⟨ta6,ha6,h⟩:=bo h;obtain ⟨ta7,ha7,h⟩:=bo h
   have q:=Qa (Ud (jDj ha3)) (Qa (Z2 ha7) (allE Qr ha6 (Qa (QC ha5) q)))
   let o l:=o (b1::.obj (some 0) (.d (.lst false 1 ta5)) (Qb a9 a10 a11 a12 a13 a14 a15 a16 a17 a18 a19 a20) ZV::.el (Zy ta6)::.ret (B ta7)::b0::.no::l)
   rcases io h with ⟨ha8,h⟩ | ⟨ha8,h⟩
   ·obtain ⟨ha9,h⟩:=gd h
    cases h
    exact rn 21 (o [b1]) [] [0,4,5,7,14,15] [0,1,2,10,11,12,13,14] (Qa ha9 (Qa ha8 q))
   obtain ⟨ha9,h⟩:=gd h
   cases h
   exact rn 21 (o [b0,b1]) [] [0,4,5,7,14,15] [0,1,2,10,11,12,13,14] (Qa ha9 (Qa (jDj ha3) (Qa (QA ha8) q)))
  have q:=Qa (jEj ha3) q
  let o l:=o (b0::l)
  rcases io h with ⟨ha4,h⟩ | ⟨ha4,h⟩
  ·obtain ⟨ta5,ha5,h⟩:=bo h;obtain ⟨ta6,ha6,h⟩:=bo h
   have q:=Qa (Uc (jEj ha3)) (Qa (Z2 ha6) (allE Qr ha5 (Qa (eqt ha4) q)))
   let o l:=o (.ix (-9)::b1::b1::.el (Zy ta5)::.ix 0::.ret (B ta6)::b1::l)
   rcases io h with ⟨ha7,h⟩ | ⟨ha7,h⟩
   ·have q:=Qa (Ud ha7) q
    rcases io h with ⟨ha8,h⟩ | ⟨ha8,h⟩
    ·obtain ⟨ha9,h⟩:=gd h
     cases h
     exact rn 21 (o [b0,b1]) [] [0,4,5,7,14,15] [0,1,2,10,11,12,13,14] (Qa ha9 (Qa ha8 q))
    obtain ⟨ha9,h⟩:=gd h
    cases h
    exact rn 21 (o [b0,b0,b0]) [] [0,4,5,7,14,15] [0,1,2,10,11,12,13,14] (Qa ha9 (Qa (jEj ha3) (Qa (QA ha8) q)))
   cases h
   exact rx 21 (o [b1]) [] [6] [0,1,2,10,11,12] (Qa (Uc (QA ha7)) q)
  obtain ⟨ta5,ha5,h⟩:=bo h;obtain ⟨ta6,ha6,h⟩:=bo h;obtain ⟨ta7,ha7,h⟩:=bo h
  have q:=Qa (Uc (jEj ha3)) (Qa (Z2 ha7) (allE Qr ha6 (Qa (QC ha5) q)))
  let o l:=o (.obj (some 0) (.d (.lst false 1 ta5)) (Qb a9 a10 a11 a12 a13 a14 a15 a16 a17 a18 a19 a20) ZV::.el (Zy ta6)::.ret (B ta7)::b1::l)
  rcases io h with ⟨ha8,h⟩ | ⟨ha8,h⟩
  ·have q:=Qa (Ud ha8) q
   rcases io h with ⟨ha9,h⟩ | ⟨ha9,h⟩
   ·obtain ⟨ha10,h⟩:=gd h
    cases h
    exact rn 21 (o [b0,b1]) [] [0,4,5,7,14,15] [0,1,2,10,11,12,13,14] (Qa ha10 (Qa ha9 q))
   obtain ⟨ha10,h⟩:=gd h
   cases h
   exact rn 21 (o [b0,b0,b0]) [] [0,4,5,7,14,15] [0,1,2,10,11,12,13,14] (Qa ha10 (Qa (jEj ha3) (Qa (QA ha9) q)))
  cases h
  exact rx 21 (o [b1]) [] [6] [0,1,2,10,11,12] (Qa (Uc (QA ha8)) q)
 cases h
 exact rx 21 [b0] [] [7] [0,1,2,10,11,12] (Qa (jEj ha1) QL)
def Qk (n:Nat) (a0:jSj) (a1:Int) (a2 a3:FnD) (a4:Int) (a5:jSj) (a6 a7:jVj) (a8:jSj) (a9 a10:jVj) (a11 a12:Int) (a13 a14:Bool) (a15 a16 a17:Int) (a18 a19 a20:jVj):Option (Int) :=
 (Q2 (Qg n a0 a1 a2 a3 a4 a5 a6 a7 a8 a9 a10 a11 a12 a13 a14 a15 a16 a17 a18 a19 a20) n (false,0)).bind fun t1=>match t1 with
  | (.inl t1)=>(
   some 10)
  | (.inr t1)=>(
   (Qm n t1 9).bind fun t2 =>
   some t2)
theorem QI {n:Nat} {a0:jSj} {a1:Int} {a2 a3:FnD} {a4:Int} {a5:jSj} {a6 a7:jVj} {a8:jSj} {a9 a10:jVj} {a11 a12:Int} {a13 a14:Bool} {a15 a16 a17:Int} {a18 a19 a20:jVj} {r:Int} (h:Qk n a0 a1 a2 a3 a4 a5 a6 a7 a8 a9 a10 a11 a12 a13 a14 a15 a16 a17 a18 a19 a20=some r):ComputesO cx 123 [.ptr 0 0 0 0 2,.d (.agg [.v (.string a0),I a1,.fn a2.1 a2.2.1 a2.2.2,.fn a3.1 a3.2.1 a3.2.2]),.d (.agg [I a4,.v (.string a5),.lst false 1 a6,.lst false 1 a7,.v (.string a8)])] (some (Qb a9 a10 a11 a12 a13 a14 a15 a16 a17 a18 a19 a20)) (.d (I r)) (Qb a9 a10 a11 a12 a13 a14 a15 a16 a17 a18 a19 a20) ZV:=by
 unfold Qk at h
 obtain ⟨t1,h1,h⟩:=bo h
 rcases t1 with t1 | t1
 ·obtain rfl:=oi h
  exact rfO 0 [.lp [] [0,4,5,7,14,15] [0,1,2,10,11,12,13,14] .ret [(6,.d (I 10))] [(0,.box (.agg [.own 1 0,.own 2 0,.d (I a11),.d (I a12),.d (B a13),.d (B a14),.d (I a15),.d (I a16),.d (I a17),.own 10 0,.own 11 0,.own 12 0])),(1,.row 0 5 a9),(2,.row 0 5 a10),(10,.row 0 1 a18),(11,.row 0 6 a19),(12,.row 0 7 a20)] 82] (Qa (QH Yx h1) QL)
 obtain ⟨t2,h2,h⟩:=bo h;obtain rfl:=oi h
 exact rfO 0 [.lp [] [0,4,5,7,14,15] [0,1,2,10,11,12,13,14] (.exit 0) [(7,.d (B t1))] [(0,.box (.agg [.own 1 0,.own 2 0,.d (I a11),.d (I a12),.d (B a13),.d (B a14),.d (I a15),.d (I a16),.d (I a17),.own 10 0,.own 11 0,.own 12 0])),(1,.row 0 5 a9),(2,.row 0 5 a10),(10,.row 0 1 a18),(11,.row 0 6 a19),(12,.row 0 7 a20)] 82,.ret (I t2)] (Qa (Qu h2) (Qa (QH Yx h1) QL))
def Z9 (n:Nat) (a0 a1:jVj) (a2 a3:Int) (a4 a5:Bool) (a6 a7 a8:Int) (a9 a10 a11:jVj) (sa:(Int)):Option (((Int))⊕((Unit)⊕(Unit))) :=
 if sa < ((a10).length:Int) then
  if 0≤sa∧sa < ((a10).length:Int) then
  ((nth (a10) (Int.toNat sa)).bind QM).bind fun ta3 =>
  if ta3.2.2.2.2.2=true then
   if ((ta3.1 == (⟨#[]⟩:jSj)) && ((ta3.2.1 == (⟨#[]⟩:jSj)) && ((ta3.2.2.1 == 0) && ((ta3.2.2.2.1 == 0) && ((ta3.2.2.2.2.1 == false) && ((ta3.2.2.2.2.2 == false) && true))))))=true then
    if Qh (sa+1) then
    some (.inl (sa+1))
    else none
   else
   some (.inr (.inl ()))
  else
  if Qh (sa+1) then
  some (.inl (sa+1))
  else none
  else none
 else
 some (.inr (.inr ()))
noncomputable def Gv (a0 a1:jVj) (a2 a3:Int) (a4 a5:Bool) (a6 a7 a8:Int) (a9 a10 a11:jVj):Lp ((Int)) ((Unit)⊕(Unit)):=⟨fun sa=>[(0,.own 22 0),(8,.own 11 0),(9,.d (I ((a10).length:Int))),(10,.d (I sa))],fun _=>[(0,.box (.agg [.own 1 0,.own 2 0,.d (I a2),.d (I a3),.d (B a4),.d (B a5),.d (I a6),.d (I a7),.d (I a8),.own 10 0,.own 11 0,.own 12 0])),(1,.row 0 5 a0),(2,.row 0 5 a1),(10,.row 0 1 a9),(11,.row 0 6 a10),(12,.row 0 7 a11),(14,.box (.d (B false))),(18,.box (.ptr 0 0 0 0 2)),(22,.loop true [(6,.fn (.func 118) [] [.ptr 18 0 0 0 0]),(5,.ptr 0 0 0 0 2),(3,.ptr 14 0 0 0 0),(2,.d (B false)),(0,.ptr 0 0 0 0 2)] [7] (ZY cx.P 173 0).1 (ZY cx.P 173 0).2 12)],fun
 | (.inl e)=>.ret
 | (.inr e)=>(.exit 0),fun _=>[],fun
 | (.inl e)=>[(0,.box (.agg [.own 1 0,.own 2 0,.d (I a2),.d (I a3),.d (B a4),.d (B a5),.d (I a6),.d (I a7),.d (I a8),.own 10 0,.own 11 0,.own 12 0])),(1,.row 0 5 a0),(2,.row 0 5 a1),(10,.row 0 1 a9),(11,.row 0 6 a10),(12,.row 0 7 a11),(14,.box (.d (B true))),(18,.box (.ptr 0 0 0 0 2)),(22,.left (.exit 0))]
 | (.inr e)=>[(0,.box (.agg [.own 1 0,.own 2 0,.d (I a2),.d (I a3),.d (B a4),.d (B a5),.d (I a6),.d (I a7),.d (I a8),.own 10 0,.own 11 0,.own 12 0])),(1,.row 0 5 a0),(2,.row 0 5 a1),(10,.row 0 1 a9),(11,.row 0 6 a10),(12,.row 0 7 a11),(14,.box (.d (B false))),(18,.box (.ptr 0 0 0 0 2)),(22,.loop true [(6,.fn (.func 118) [] [.ptr 18 0 0 0 0]),(5,.ptr 0 0 0 0 2),(3,.ptr 14 0 0 0 0),(2,.d (B false)),(0,.ptr 0 0 0 0 2)] [7] (ZY cx.P 173 0).1 (ZY cx.P 173 0).2 12)]⟩
theorem Y0 {n:Nat} {a0 a1:jVj} {a2 a3:Int} {a4 a5:Bool} {a6 a7 a8:Int} {a9 a10 a11:jVj} (sa:(Int)) (r) (h:Z9 n a0 a1 a2 a3 a4 a5 a6 a7 a8 a9 a10 a11 sa=some r):Rl (ZJ cx.P 118 0) 23 23 false (Gv a0 a1 a2 a3 a4 a5 a6 a7 a8 a9 a10 a11) sa r:=by
 unfold Z9 at h
 rcases io h with ⟨ha1,h⟩ | ⟨ha1,h⟩
 ·obtain ⟨ha2,h⟩:=gd h;obtain ⟨ta3,ha3,h⟩:=bo h
  have q:=Qa (QX Qq ha3) (Qa ha2 (Qa (jDj ha1) QL))
  let o (l:List Orc):=b1::b1::.el (QB ta3)::l
  rcases io h with ⟨ha4,h⟩ | ⟨ha4,h⟩
  ·have q:=Qa ha4 q
   rcases io h with ⟨ha5,h⟩ | ⟨ha5,h⟩
   ·obtain ⟨ha6,h⟩:=gd h
    cases h
    exact rn 29 (o [b1,b0,.no]) [] [0,8,9,10] [0,1,2,10,11,12,14,18,22] (Qa ha6 (Qa (Ud ha5) q))
   cases h
   exact rx 29 (o [b1,b1,.no]) [] [] [0,1,2,10,11,12,14,18,22] (Qa (Uc (QA ha5)) q)
  obtain ⟨ha5,h⟩:=gd h
  cases h
  exact rn 29 (o [b0,.no]) [] [0,8,9,10] [0,1,2,10,11,12,14,18,22] (Qa ha5 (Qa (QA ha4) q))
 cases h
 exact rx 29 [b0] [] [] [0,1,2,10,11,12,14,18,22] (Qa (jEj ha1) QL)
def W6 (n:Nat) (a0 a1:jVj) (a2 a3:Int) (a4 a5:Bool) (a6 a7 a8:Int) (a9 a10 a11:jVj):Option (Bool) :=
 (Q2 (Z9 n a0 a1 a2 a3 a4 a5 a6 a7 a8 a9 a10 a11) n 0).bind fun t1=>match t1 with
  | (.inl t1)=>(
   some true)
  | (.inr t1)=>(
   some false)
theorem Xv {n:Nat} {a0 a1:jVj} {a2 a3:Int} {a4 a5:Bool} {a6 a7 a8:Int} {a9 a10 a11:jVj} {r:Bool} (h:W6 n a0 a1 a2 a3 a4 a5 a6 a7 a8 a9 a10 a11=some r):ComputesO cx 173 [.ptr 0 0 0 0 2] (some (Qb a0 a1 a2 a3 a4 a5 a6 a7 a8 a9 a10 a11)) (.d (B r)) (Qb a0 a1 a2 a3 a4 a5 a6 a7 a8 a9 a10 a11) ZV:=by
 unfold W6 at h
 obtain ⟨t1,h1,h⟩:=bo h
 rcases t1 with t1 | t1
 ·obtain rfl:=oi h
  exact rfO 0 [b1,.lp [] [0,8,9,10] [0,1,2,10,11,12,14,18,22] .ret [] [(0,.box (.agg [.own 1 0,.own 2 0,.d (I a2),.d (I a3),.d (B a4),.d (B a5),.d (I a6),.d (I a7),.d (I a8),.own 10 0,.own 11 0,.own 12 0])),(1,.row 0 5 a0),(2,.row 0 5 a1),(10,.row 0 1 a9),(11,.row 0 6 a10),(12,.row 0 7 a11),(14,.box (.d (B true))),(18,.box (.ptr 0 0 0 0 2)),(22,.left (.exit 0))] 60] (Qa (QH Y0 h1) QL)
 obtain rfl:=oi h
 exact rfO 0 [b1,.lp [] [0,8,9,10] [0,1,2,10,11,12,14,18,22] (.exit 0) [] [(0,.box (.agg [.own 1 0,.own 2 0,.d (I a2),.d (I a3),.d (B a4),.d (B a5),.d (I a6),.d (I a7),.d (I a8),.own 10 0,.own 11 0,.own 12 0])),(1,.row 0 5 a0),(2,.row 0 5 a1),(10,.row 0 1 a9),(11,.row 0 6 a10),(12,.row 0 7 a11),(14,.box (.d (B false))),(18,.box (.ptr 0 0 0 0 2)),(22,.loop true [(6,.fn (.func 118) [] [.ptr 18 0 0 0 0]),(5,.ptr 0 0 0 0 2),(3,.ptr 14 0 0 0 0),(2,.d (B false)),(0,.ptr 0 0 0 0 2)] [7] (ZY cx.P 173 0).1 (ZY cx.P 173 0).2 12)] 60] (Qa (QH Y0 h1) QL)
def Um (n:Nat)  : Option (Int) :=
 some 14
theorem Xt {n:Nat}  {r:Int} (h:Um n =some r):Computes cx 69 [B true,I 14] (I r):=by
 unfold Um at h
 obtain rfl:=oi h
 exact rf [.no] QL
def WL (n:Nat) (a0:Int) (a1:jSj) (a2 a3:jVj) (a4:jSj):Option (Int×Int×Int) :=
 (el Vt a3 1).bind fun t1 =>
 (el Vt a3 2).bind fun t2 =>
 (el Vt a3 0).bind fun t3 =>
 if t1 < t3 then
  (Um n).bind fun t5 =>
  some (t1,t2,t5)
 else
 (Qm n (decide (t1 ≥ t2)) 14).bind fun t5 =>
 some (t1,t2,t5)
theorem GT {n:Nat} {a0:Int} {a1:jSj} {a2 a3:jVj} {a4:jSj} {r:Int×Int×Int} (h:WL n a0 a1 a2 a3 a4=some r):Computes cx 181 [.agg [I a0,.v (.string a1),.lst false 1 a2,.lst false 1 a3,.v (.string a4)]] (.tup [.agg [I r.1,I r.2.1],I r.2.2]):=by
 unfold WL at h
 obtain ⟨t1,h1,h⟩:=bo h;obtain ⟨t2,h2,h⟩:=bo h;obtain ⟨t3,h3,h⟩:=bo h
 have q:=allE Qi h3 (allE Qi h2 (allE Qi h1 QL))
 let o (l:List Orc):=.el (Q3 t1)::.el (Q3 t2)::.el (Q3 t3)::l
 rcases io h with ⟨h4,h⟩ | ⟨h4,h⟩
 ·obtain ⟨t5,h5,h⟩:=bo h
  cases h
  exact rf (o [b1,.ret (I t5)]) (Qa (Xt h5) (Qa (jDj h4) q))
 obtain ⟨t5,h5,h⟩:=bo h
 cases h
 exact rf (o [b0,.ret (I t5)]) (Qa (Qu h5) (Qa (jEj h4) q))
def Zg (n:Nat) (a0:jSj) (a1 a2 a3 a4 a5:Int) (a6:Bool):Option (Int) :=
 if Qh (a3 - a5) then
 some (a3 - a5)
 else none
theorem W8 {n:Nat} {a0:jSj} {a1 a2 a3 a4 a5:Int} {a6:Bool} {r:Int} (h:Zg n a0 a1 a2 a3 a4 a5 a6=some r):Computes cx 78 [.agg [.v (.string a0),I a1,I a2,I a3,I a4,I a5,B a6]] (I r):=by
 unfold Zg at h
 obtain ⟨h1,h⟩:=gd h
 cases h
 exact rf [] (Qa h1 QL)
end Go.Proofs.YtljabneifpkbjaaGreatDoor
