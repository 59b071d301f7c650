/- What the functions that the law WireDecodes reaches compute, as plain functions; no condition. -/
import Derived.Test.YtgcglmoogaldbaaWTy
set_option linter.unusedSimpArgs false
set_option linter.unusedVariables false
set_option linter.constructorNameAsVariable false
set_option linter.unnecessarySimpa false
namespace Go.Proofs.Ytgcglmoogaldbaa
open Go Go.Mx Go.Proofs
noncomputable def rloctets_z (p0:List Int):Option (List Int):=
 bif dh p0.length 1 then
  some p0
 else
 none
def K_rloctets_z (C:aj):Prop:=∀(p0:List Int) (r:(List Int)),rloctets_z p0=some r→C 8 [.v (.sl 1 (ah cE p0))] []=some (.v (.sl 1 (ah cE r)),[])
noncomputable def sKbyte_byte_z (p0:List Int):Option (List Int):=bif dh p0.length 1 then some p0 else none
def K_sKbyte_byte_z (C:aj):Prop:=∀(p0:List Int) (r:(List Int)),sKbyte_byte_z p0=some r→C 23 [.v (.sl 1 (ah cE p0))] []=some (.v (.sl 1 (ah cE r)),[])
noncomputable def wrtake (p0:Int) (p1:Greader):Option ((List Int)×Greader):=
 bif p1.fshort then
  some ([],(Greader.mk p1.frest true))
 else
 bif decide ((p1.frest.length:Int)<p0) then
  some ([],(Greader.mk p1.frest true))
 else
 bif rngB 0 p0 (p1.frest.length:Int) then
  bif rngB p0 (p1.frest.length:Int) (p1.frest.length:Int) then
   some ((dm p1.frest 0 p0),(Greader.mk (dm p1.frest p0 (p1.frest.length:Int)) false))
  else
  none
 else
 none
def K_wrtake (C:aj):Prop:=∀(p0:Int) (p1:Greader) (r:(List Int)×Greader),wrtake p0 p1=some r→C 67 [.ptr 0 0,.v (.i .i64 p0)] [[.v (.sl 1 (ah cE p1.frest)),.v (.b p1.fshort)]]=some (.v (.sl 1 (ah cE r.1)),[[.v (.sl 1 (ah cE r.2.frest)),.v (.b r.2.fshort)]])
noncomputable def st_wrnumber_0 (p1:List Int) (p2:Int) (p4:Greader) (s:Int×Int):Option ((Int×Int)⊕Int):=
 match s with
 |(p0,p3)=>
  bif decide (p3<p2) then
   oB (idx p1 p3) fun x1=>
   some (.inl ((IntKind.u64.wrap (BitVec.ofInt IntKind.u64.bits (IntKind.u64.wrap (p0*2 ^ (min (8:Int).toNat IntKind.u64.bits)))|||BitVec.ofInt IntKind.u64.bits (IntKind.u64.wrap x1)).toNat),(IntKind.i64.wrap (p3+1))))
  else
  some (.inr p0)
noncomputable def wrnumber (p0:Greader):Option (Int×Greader):=
 oB (wrtake 8 p0) fun (x1,x2)=>
 oB (cM (st_wrnumber_0 x1 (x1.length:Int) x2) (0,0)) fun x3=>
 some ((IntKind.i64.wrap (IntKind.u64.wrap (x3-4611686018427387904))),x2)
def K_wrnumber (C:aj):Prop:=∀(p0:Greader) (r:Int×Greader),wrnumber p0=some r→C 24 [.ptr 0 0] [[.v (.sl 1 (ah cE p0.frest)),.v (.b p0.fshort)]]=some (.v (.i .i64 r.1),[[.v (.sl 1 (ah cE r.2.frest)),.v (.b r.2.fshort)]])
noncomputable def st_wrsmall_0 (p0:List Int) (p1:Int) (p2:Greader) (s:Unit):Option (Unit⊕(Int⊕Unit)):=
 match s with
 |_=>
  bif decide (0<p1) then
   oB (idx p0 0) fun x1=>
   some (.inr (.inl (IntKind.i64.wrap x1)))
  else
  some (.inr (.inr ()))
noncomputable def wrsmall (p0:Greader):Option (Int×Greader):=
 oB (wrtake 1 p0) fun (x1,x2)=>
 oB (cM (st_wrsmall_0 x1 (x1.length:Int) x2) ()) fun
 | .inl x3=>
  some (x3,x2)
 | .inr _=>
  some (0,x2)
def K_wrsmall (C:aj):Prop:=∀(p0:Greader) (r:Int×Greader),wrsmall p0=some r→C 30 [.ptr 0 0] [[.v (.sl 1 (ah cE p0.frest)),.v (.b p0.fshort)]]=some (.v (.i .i64 r.1),[[.v (.sl 1 (ah cE r.2.frest)),.v (.b r.2.fshort)]])
noncomputable def wrtext (p0:Greader):Option (ByteArray×Greader):=
 oB (wrsmall p0) fun (x1,x2)=>
 oB (wrtake x1 x2) fun (x3,x4)=>
 bif allB x3 then
  some ((strL x3),x4)
 else
 none
def K_wrtext (C:aj):Prop:=∀(p0:Greader) (r:ByteArray×Greader),wrtext p0=some r→C 27 [.ptr 0 0] [[.v (.sl 1 (ah cE p0.frest)),.v (.b p0.fshort)]]=some (.v (.s r.1),[[.v (.sl 1 (ah cE r.2.frest)),.v (.b r.2.fshort)]])
noncomputable def wrvalue_fn1 (p0:Greader) (p1:GValue):Option (Greader×GValue):=
 oB (wrtext p0) fun (x1,x2)=>
 oB (wrtext x2) fun (x3,x4)=>
 bif dh (p1.fPairs.length+1) 32 then
  some (x4,(GValue.mk p1.fKind p1.fText p1.fCount (p1.fPairs++ [(GPair.mk x1 x3)]) p1.fItems p1.fScores))
 else
 none
def K_wrvalue_fn1 (C:aj):Prop:=∀(p0:Greader) (p1:GValue) (r:Greader×GValue),wrvalue_fn1 p0 p1=some r→C 68 [.ptr 1 0,.ptr 2 0] [[.v (.sl 1 (ah cE p0.frest)),.v (.b p0.fshort)],[.v (.i .i64 p1.fKind),.v (.s p1.fText),.v (.i .i64 p1.fCount),.own 2 (ah GPair.row p1.fPairs),.own 1 (ah bY p1.fItems),.own 2 (ah GScore.row p1.fScores)],[.ptr 0 0]]=some (.tup [],[[.v (.sl 1 (ah cE r.1.frest)),.v (.b r.1.fshort)],[.v (.i .i64 r.2.fKind),.v (.s r.2.fText),.v (.i .i64 r.2.fCount),.own 2 (ah GPair.row r.2.fPairs),.own 1 (ah bY r.2.fItems),.own 2 (ah GScore.row r.2.fScores)],[.ptr 0 0]])
noncomputable def st_wreach_wrvalue_fn1_0  (s:Int×Greader×GValue):Option ((Int×Greader×GValue)⊕(Greader×GValue)):=
 match s with
 |(p0,p1,p2)=>
  bif decide (0<p0) then
   bif p1.fshort then
    some (.inr (p1,p2))
   else
   oB (wrvalue_fn1 (Greader.mk p1.frest false) p2) fun (x1,x2)=>
   some (.inl ((IntKind.i64.wrap (p0-1)),x1,x2))
  else
  some (.inr (p1,p2))
noncomputable def wreach_wrvalue_fn1 (p0:Greader) (p1:GValue):Option (Greader×GValue):=
 oB (wrsmall p0) fun (x1,x2)=>
 oB (cM (st_wreach_wrvalue_fn1_0) (x1,x2,p1)) fun (x3,x4)=>
 some (x3,x4)
def K_wreach_wrvalue_fn1 (C:aj):Prop:=∀(p0:Greader) (p1:GValue) (r:Greader×GValue),wreach_wrvalue_fn1 p0 p1=some r→C 25 [.ptr 0 0,.clo 68 [.ptr 1 0,.ptr 2 0]] [[.v (.sl 1 (ah cE p0.frest)),.v (.b p0.fshort)],[.v (.i .i64 p1.fKind),.v (.s p1.fText),.v (.i .i64 p1.fCount),.own 2 (ah GPair.row p1.fPairs),.own 1 (ah bY p1.fItems),.own 2 (ah GScore.row p1.fScores)],[.ptr 0 0]]=some (.tup [],[[.v (.sl 1 (ah cE r.1.frest)),.v (.b r.1.fshort)],[.v (.i .i64 r.2.fKind),.v (.s r.2.fText),.v (.i .i64 r.2.fCount),.own 2 (ah GPair.row r.2.fPairs),.own 1 (ah bY r.2.fItems),.own 2 (ah GScore.row r.2.fScores)],[.ptr 0 0]])
noncomputable def wrtexts_fn1 (p0:Greader) (p1:List ByteArray):Option (Greader×(List ByteArray)):=
 oB (wrtext p0) fun (x1,x2)=>
 bif dh (p1.length+1) 16 then
  some (x2,(p1++ [x1]))
 else
 none
def K_wrtexts_fn1 (C:aj):Prop:=∀(p0:Greader) (p1:List ByteArray) (r:Greader×(List ByteArray)),wrtexts_fn1 p0 p1=some r→C 70 [.ptr 1 0,.ptr 2 0] [[.v (.sl 1 (ah cE p0.frest)),.v (.b p0.fshort)],[.own 1 (ah bY p1)],[.ptr 0 0]]=some (.tup [],[[.v (.sl 1 (ah cE r.1.frest)),.v (.b r.1.fshort)],[.own 1 (ah bY r.2)],[.ptr 0 0]])
noncomputable def st_wreach_wrtexts_fn1_0  (s:Int×Greader×(List ByteArray)):Option ((Int×Greader×(List ByteArray))⊕(Greader×(List ByteArray))):=
 match s with
 |(p0,p1,p2)=>
  bif decide (0<p0) then
   bif p1.fshort then
    some (.inr (p1,p2))
   else
   oB (wrtexts_fn1 (Greader.mk p1.frest false) p2) fun (x1,x2)=>
   some (.inl ((IntKind.i64.wrap (p0-1)),x1,x2))
  else
  some (.inr (p1,p2))
noncomputable def wreach_wrtexts_fn1 (p0:Greader) (p1:List ByteArray):Option (Greader×(List ByteArray)):=
 oB (wrsmall p0) fun (x1,x2)=>
 oB (cM (st_wreach_wrtexts_fn1_0) (x1,x2,p1)) fun (x3,x4)=>
 some (x3,x4)
def K_wreach_wrtexts_fn1 (C:aj):Prop:=∀(p0:Greader) (p1:List ByteArray) (r:Greader×(List ByteArray)),wreach_wrtexts_fn1 p0 p1=some r→C 25 [.ptr 0 0,.clo 70 [.ptr 1 0,.ptr 2 0]] [[.v (.sl 1 (ah cE p0.frest)),.v (.b p0.fshort)],[.own 1 (ah bY p1)],[.ptr 0 0]]=some (.tup [],[[.v (.sl 1 (ah cE r.1.frest)),.v (.b r.1.fshort)],[.own 1 (ah bY r.2)],[.ptr 0 0]])
noncomputable def wrtexts (p0:Greader):Option ((List ByteArray)×Greader):=
 oB (wreach_wrtexts_fn1 p0 []) fun (x1,x2)=>
 some (x2,x1)
def K_wrtexts (C:aj):Prop:=∀(p0:Greader) (r:(List ByteArray)×Greader),wrtexts p0=some r→C 31 [.ptr 0 0] [[.v (.sl 1 (ah cE p0.frest)),.v (.b p0.fshort)]]=some (.own 1 (ah bY r.1),[[.v (.sl 1 (ah cE r.2.frest)),.v (.b r.2.fshort)]])
noncomputable def wrvalue_fn2 (p0:Greader) (p1:GValue):Option (Greader×GValue):=
 oB (wrtext p0) fun (x1,x2)=>
 oB (wrnumber x2) fun (x3,x4)=>
 bif dh (p1.fScores.length+1) 24 then
  some (x4,(GValue.mk p1.fKind p1.fText p1.fCount p1.fPairs p1.fItems (p1.fScores++ [(GScore.mk x1 x3)])))
 else
 none
def K_wrvalue_fn2 (C:aj):Prop:=∀(p0:Greader) (p1:GValue) (r:Greader×GValue),wrvalue_fn2 p0 p1=some r→C 69 [.ptr 1 0,.ptr 2 0] [[.v (.sl 1 (ah cE p0.frest)),.v (.b p0.fshort)],[.v (.i .i64 p1.fKind),.v (.s p1.fText),.v (.i .i64 p1.fCount),.own 2 (ah GPair.row p1.fPairs),.own 1 (ah bY p1.fItems),.own 2 (ah GScore.row p1.fScores)],[.ptr 0 0]]=some (.tup [],[[.v (.sl 1 (ah cE r.1.frest)),.v (.b r.1.fshort)],[.v (.i .i64 r.2.fKind),.v (.s r.2.fText),.v (.i .i64 r.2.fCount),.own 2 (ah GPair.row r.2.fPairs),.own 1 (ah bY r.2.fItems),.own 2 (ah GScore.row r.2.fScores)],[.ptr 0 0]])
noncomputable def st_wreach_wrvalue_fn2_0  (s:Int×Greader×GValue):Option ((Int×Greader×GValue)⊕(Greader×GValue)):=
 match s with
 |(p0,p1,p2)=>
  bif decide (0<p0) then
   bif p1.fshort then
    some (.inr (p1,p2))
   else
   oB (wrvalue_fn2 (Greader.mk p1.frest false) p2) fun (x1,x2)=>
   some (.inl ((IntKind.i64.wrap (p0-1)),x1,x2))
  else
  some (.inr (p1,p2))
noncomputable def wreach_wrvalue_fn2 (p0:Greader) (p1:GValue):Option (Greader×GValue):=
 oB (wrsmall p0) fun (x1,x2)=>
 oB (cM (st_wreach_wrvalue_fn2_0) (x1,x2,p1)) fun (x3,x4)=>
 some (x3,x4)
def K_wreach_wrvalue_fn2 (C:aj):Prop:=∀(p0:Greader) (p1:GValue) (r:Greader×GValue),wreach_wrvalue_fn2 p0 p1=some r→C 25 [.ptr 0 0,.clo 69 [.ptr 1 0,.ptr 2 0]] [[.v (.sl 1 (ah cE p0.frest)),.v (.b p0.fshort)],[.v (.i .i64 p1.fKind),.v (.s p1.fText),.v (.i .i64 p1.fCount),.own 2 (ah GPair.row p1.fPairs),.own 1 (ah bY p1.fItems),.own 2 (ah GScore.row p1.fScores)],[.ptr 0 0]]=some (.tup [],[[.v (.sl 1 (ah cE r.1.frest)),.v (.b r.1.fshort)],[.v (.i .i64 r.2.fKind),.v (.s r.2.fText),.v (.i .i64 r.2.fCount),.own 2 (ah GPair.row r.2.fPairs),.own 1 (ah bY r.2.fItems),.own 2 (ah GScore.row r.2.fScores)],[.ptr 0 0]])
noncomputable def wrvalue (p0:Greader):Option (GValue×Greader):=
 oB (wrsmall p0) fun (x1,x2)=>
 oB (wrtext x2) fun (x3,x4)=>
 oB (wrnumber x4) fun (x5,x6)=>
 oB (wreach_wrvalue_fn1 x6 (GValue.mk x1 x3 x5 [] [] [])) fun (x7,x8)=>
 oB (wrtexts x7) fun (x9,x10)=>
 oB (wreach_wrvalue_fn2 x10 (GValue.mk x8.fKind x8.fText x8.fCount x8.fPairs x9 x8.fScores)) fun (x11,x12)=>
 some (x12,x11)
def K_wrvalue (C:aj):Prop:=∀(p0:Greader) (r:GValue×Greader),wrvalue p0=some r→C 28 [.ptr 0 0] [[.v (.sl 1 (ah cE p0.frest)),.v (.b p0.fshort)]]=some (.agg [.v (.i .i64 r.1.fKind),.v (.s r.1.fText),.v (.i .i64 r.1.fCount),.own 2 (ah GPair.row r.1.fPairs),.own 1 (ah bY r.1.fItems),.own 2 (ah GScore.row r.1.fScores)],[[.v (.sl 1 (ah cE r.2.frest)),.v (.b r.2.fshort)]])
noncomputable def wire_Decode_fn1 (p0:Greader) (p1:GMachine):Option (Greader×GMachine):=
 oB (wrtext p0) fun (x1,x2)=>
 oB (wrvalue x2) fun (x3,x4)=>
 oB (wrnumber x4) fun (x5,x6)=>
 bif dh (p1.fStore.fEntries.length+1) 128 then
  some (x6,(GMachine.mk (GStore.mk p1.fStore.fNow (p1.fStore.fEntries++ [(GEntry.mk x1 x3 x5)])) p1.fNext p1.fClients))
 else
 none
def K_wire_Decode_fn1 (C:aj):Prop:=∀(p0:Greader) (p1:GMachine) (r:Greader×GMachine),wire_Decode_fn1 p0 p1=some r→C 26 [.ptr 1 0,.ptr 2 0] [[.v (.sl 1 (ah cE p0.frest)),.v (.b p0.fshort)],[.v (.i .i64 p1.fStore.fNow),.own 8 (ah GEntry.row p1.fStore.fEntries),.v (.i .i64 p1.fNext),.own 7 (ah GClient.row p1.fClients)],[.ptr 0 0]]=some (.tup [],[[.v (.sl 1 (ah cE r.1.frest)),.v (.b r.1.fshort)],[.v (.i .i64 r.2.fStore.fNow),.own 8 (ah GEntry.row r.2.fStore.fEntries),.v (.i .i64 r.2.fNext),.own 7 (ah GClient.row r.2.fClients)],[.ptr 0 0]])
noncomputable def st_wreach_wire_Decode_fn1_0  (s:Int×Greader×GMachine):Option ((Int×Greader×GMachine)⊕(Greader×GMachine)):=
 match s with
 |(p0,p1,p2)=>
  bif decide (0<p0) then
   bif p1.fshort then
    some (.inr (p1,p2))
   else
   oB (wire_Decode_fn1 (Greader.mk p1.frest false) p2) fun (x1,x2)=>
   some (.inl ((IntKind.i64.wrap (p0-1)),x1,x2))
  else
  some (.inr (p1,p2))
noncomputable def wreach_wire_Decode_fn1 (p0:Greader) (p1:GMachine):Option (Greader×GMachine):=
 oB (wrsmall p0) fun (x1,x2)=>
 oB (cM (st_wreach_wire_Decode_fn1_0) (x1,x2,p1)) fun (x3,x4)=>
 some (x3,x4)
def K_wreach_wire_Decode_fn1 (C:aj):Prop:=∀(p0:Greader) (p1:GMachine) (r:Greader×GMachine),wreach_wire_Decode_fn1 p0 p1=some r→C 25 [.ptr 0 0,.clo 26 [.ptr 1 0,.ptr 2 0]] [[.v (.sl 1 (ah cE p0.frest)),.v (.b p0.fshort)],[.v (.i .i64 p1.fStore.fNow),.own 8 (ah GEntry.row p1.fStore.fEntries),.v (.i .i64 p1.fNext),.own 7 (ah GClient.row p1.fClients)],[.ptr 0 0]]=some (.tup [],[[.v (.sl 1 (ah cE r.1.frest)),.v (.b r.1.fshort)],[.v (.i .i64 r.2.fStore.fNow),.own 8 (ah GEntry.row r.2.fStore.fEntries),.v (.i .i64 r.2.fNext),.own 7 (ah GClient.row r.2.fClients)],[.ptr 0 0]])
noncomputable def wire_Decode_fn2_c0 (p0:Greader) (p1:GMachine) (x1:Int) (x2:Greader):Option (Greader×GMachine):=
 oB (wrnumber x2) fun (x3,x4)=>
 oB (wrnumber x4) fun (x5,x6)=>
 oB (wrsmall x6) fun (x7,x8)=>
 oB (wrtext x8) fun (x9,x10)=>
 oB (wrnumber x10) fun (x11,x12)=>
 oB (wrtexts x12) fun (x13,x14)=>
 bif dh (p1.fClients.length+1) 80 then
  some (x14,(GMachine.mk p1.fStore p1.fNext (p1.fClients++ [(GClient.mk x1 x3 x5 (GReply.mk x7 x9 x11 x13))])))
 else
 none
noncomputable def wire_Decode_fn2 (p0:Greader) (p1:GMachine):Option (Greader×GMachine):=
 oB (wrnumber p0) fun (x1,x2)=>
 wire_Decode_fn2_c0 p0 p1 x1 x2
def K_wire_Decode_fn2 (C:aj):Prop:=∀(p0:Greader) (p1:GMachine) (r:Greader×GMachine),wire_Decode_fn2 p0 p1=some r→C 29 [.ptr 1 0,.ptr 2 0] [[.v (.sl 1 (ah cE p0.frest)),.v (.b p0.fshort)],[.ptr 0 0],[.v (.i .i64 p1.fStore.fNow),.own 8 (ah GEntry.row p1.fStore.fEntries),.v (.i .i64 p1.fNext),.own 7 (ah GClient.row p1.fClients)]]=some (.tup [],[[.v (.sl 1 (ah cE r.1.frest)),.v (.b r.1.fshort)],[.ptr 0 0],[.v (.i .i64 r.2.fStore.fNow),.own 8 (ah GEntry.row r.2.fStore.fEntries),.v (.i .i64 r.2.fNext),.own 7 (ah GClient.row r.2.fClients)]])
noncomputable def st_wreach_wire_Decode_fn2_0  (s:Int×Greader×GMachine):Option ((Int×Greader×GMachine)⊕(Greader×GMachine)):=
 match s with
 |(p0,p1,p2)=>
  bif decide (0<p0) then
   bif p1.fshort then
    some (.inr (p1,p2))
   else
   oB (wire_Decode_fn2 (Greader.mk p1.frest false) p2) fun (x1,x2)=>
   some (.inl ((IntKind.i64.wrap (p0-1)),x1,x2))
  else
  some (.inr (p1,p2))
noncomputable def wreach_wire_Decode_fn2 (p0:Greader) (p1:GMachine):Option (Greader×GMachine):=
 oB (wrsmall p0) fun (x1,x2)=>
 oB (cM (st_wreach_wire_Decode_fn2_0) (x1,x2,p1)) fun (x3,x4)=>
 some (x3,x4)
def K_wreach_wire_Decode_fn2 (C:aj):Prop:=∀(p0:Greader) (p1:GMachine) (r:Greader×GMachine),wreach_wire_Decode_fn2 p0 p1=some r→C 25 [.ptr 0 0,.clo 29 [.ptr 1 0,.ptr 2 0]] [[.v (.sl 1 (ah cE p0.frest)),.v (.b p0.fshort)],[.ptr 0 0],[.v (.i .i64 p1.fStore.fNow),.own 8 (ah GEntry.row p1.fStore.fEntries),.v (.i .i64 p1.fNext),.own 7 (ah GClient.row p1.fClients)]]=some (.tup [],[[.v (.sl 1 (ah cE r.1.frest)),.v (.b r.1.fshort)],[.ptr 0 0],[.v (.i .i64 r.2.fStore.fNow),.own 8 (ah GEntry.row r.2.fStore.fEntries),.v (.i .i64 r.2.fNext),.own 7 (ah GClient.row r.2.fClients)]])
noncomputable def wrend (p0:Bool) (p1:Greader):Option (Int×Greader):=
 bif p1.fshort then
  some (9,p1)
 else
 bif p0 then
  bif decide (0<(p1.frest.length:Int)) then
   some (8,(Greader.mk p1.frest false))
  else
  some (0,(Greader.mk p1.frest false))
 else
 some (8,(Greader.mk p1.frest false))
def K_wrend (C:aj):Prop:=∀(p0:Bool) (p1:Greader) (r:Int×Greader),wrend p0 p1=some r→C 32 [.ptr 0 0,.v (.b p0)] [[.v (.sl 1 (ah cE p1.frest)),.v (.b p1.fshort)]]=some (.v (.i .i64 r.1),[[.v (.sl 1 (ah cE r.2.frest)),.v (.b r.2.fshort)]])
noncomputable def value_elements_v (p0:GValue):Int:=
 (IntKind.i64.wrap ((IntKind.i64.wrap ((p0.fPairs.length:Int)+(p0.fItems.length:Int)))+(p0.fScores.length:Int)))
noncomputable def value_elements (p0:GValue):Option Int:=some (value_elements_v p0)
theorem value_elements_t (p0:GValue):value_elements p0=some (value_elements_v p0):=rfl
def K_value_elements (C:aj):Prop:=∀(p0:GValue) (r:Int),value_elements p0=some r→C 114 [.agg [.v (.i .i64 p0.fKind),.v (.s p0.fText),.v (.i .i64 p0.fCount),.v (.sl 2 (ah GPair.row p0.fPairs)),.v (.sl 1 (ah bY p0.fItems)),.v (.sl 2 (ah GScore.row p0.fScores))]] []=some (.v (.i .i64 r),[])
noncomputable def value_text (p0:ByteArray):Option Bool:=
 some (decide ((p0.size:Int)≤20))
noncomputable def value_text_v (p0:ByteArray):Bool:=decide ((p0.size:Int)≤20)
theorem value_text_t (p0:ByteArray):value_text p0=some (value_text_v p0):=by
 simp only [value_text,value_text_v]
def K_value_text (C:aj):Prop:=∀(p0:ByteArray) (r:Bool),value_text p0=some r→C 115 [.v (.s p0)] []=some (.v (.b r),[])
noncomputable def vaC_fn1 (p0:ByteArray):Option Bool:=
 some (!(value_text_v p0))
noncomputable def vaC_fn1_v (p0:ByteArray):Bool:=(!(value_text_v p0))
theorem vaC_fn1_t (p0:ByteArray):vaC_fn1 p0=some (vaC_fn1_v p0):=by
 simp only [vaC_fn1,vaC_fn1_v]
def K_vaC_fn1 (C:aj):Prop:=∀(p0:ByteArray) (r:Bool),vaC_fn1 p0=some r→C 116 [.v (.s p0)] []=some (.v (.b r),[])
noncomputable def st_sISvaC_fn1_0 (p0:List ByteArray) (p1:Int) (s:Int):Option (Int⊕(Int⊕Unit)):=
 match s with
 |p2=>
  bif decide (p2<p1) then
   oB (idx p0 p2) fun x1=>
   bif (vaC_fn1_v x1) then
    some (.inr (.inl p2))
   else
   some (.inl (IntKind.i64.wrap (p2+1)))
  else
  some (.inr (.inr ()))
noncomputable def sISvaC_fn1 (p0:List ByteArray):Option Int:=
 oB (cM (st_sISvaC_fn1_0 p0 (p0.length:Int)) 0) fun
 | .inl x1=>
  some x1
 | .inr _=>
  some (-1)
def K_sISvaC_fn1 (C:aj):Prop:=∀(p0:List ByteArray) (r:Int),sISvaC_fn1 p0=some r→C 131 [.v (.sl 1 (ah bY p0)),.clo 116 []] []=some (.v (.i .i64 r),[])
noncomputable def sCSvaC_fn1 (p0:List ByteArray):Option Bool:=
 oB (sISvaC_fn1 p0) fun x1=>
 some (decide (0≤x1))
def K_sCSvaC_fn1 (C:aj):Prop:=∀(p0:List ByteArray) (r:Bool),sCSvaC_fn1 p0=some r→C 91 [.v (.sl 1 (ah bY p0)),.clo 116 []] []=some (.v (.b r),[])
noncomputable def value_field (p0:ByteArray):Option Bool:=
 bif decide (1≤(p0.size:Int)) then
  some (decide ((p0.size:Int)≤12))
 else
 some false
noncomputable def value_field_v (p0:ByteArray):Bool:=(decide (1≤(p0.size:Int))&&decide ((p0.size:Int)≤12))
theorem value_field_t (p0:ByteArray):value_field p0=some (value_field_v p0):=by
 simp only [value_field,value_field_v]
 cases decide (1≤(p0.size:Int))<;>rfl
def K_value_field (C:aj):Prop:=∀(p0:ByteArray) (r:Bool),value_field p0=some r→C 119 [.v (.s p0)] []=some (.v (.b r),[])
noncomputable def vaC_fn2 (p0:GPair):Option Bool:=
 bif (value_field_v p0.fField) then
  some (!(value_text_v p0.fText))
 else
 some true
noncomputable def vaC_fn2_v (p0:GPair):Bool:=(bif (value_field_v p0.fField) then (!(value_text_v p0.fText)) else true)
theorem vaC_fn2_t (p0:GPair):vaC_fn2 p0=some (vaC_fn2_v p0):=by
 simp only [vaC_fn2,vaC_fn2_v]
 cases (value_field_v p0.fField)<;>rfl
def K_vaC_fn2 (C:aj):Prop:=∀(p0:GPair) (r:Bool),vaC_fn2 p0=some r→C 118 [.agg [.v (.s p0.fField),.v (.s p0.fText)]] []=some (.v (.b r),[])
noncomputable def st_sIPvaC_fn2_0 (p0:List GPair) (p1:Int) (s:Int):Option (Int⊕(Int⊕Unit)):=
 match s with
 |p2=>
  bif decide (p2<p1) then
   oB (idx p0 p2) fun x1=>
   bif (vaC_fn2_v x1) then
    some (.inr (.inl p2))
   else
   some (.inl (IntKind.i64.wrap (p2+1)))
  else
  some (.inr (.inr ()))
noncomputable def sIPvaC_fn2 (p0:List GPair):Option Int:=
 oB (cM (st_sIPvaC_fn2_0 p0 (p0.length:Int)) 0) fun
 | .inl x1=>
  some x1
 | .inr _=>
  some (-1)
def K_sIPvaC_fn2 (C:aj):Prop:=∀(p0:List GPair) (r:Int),sIPvaC_fn2 p0=some r→C 136 [.v (.sl 2 (ah GPair.row p0)),.clo 118 []] []=some (.v (.i .i64 r),[])
noncomputable def sCPvaC_fn2 (p0:List GPair):Option Bool:=
 oB (sIPvaC_fn2 p0) fun x1=>
 some (decide (0≤x1))
def K_sCPvaC_fn2 (C:aj):Prop:=∀(p0:List GPair) (r:Bool),sCPvaC_fn2 p0=some r→C 117 [.v (.sl 2 (ah GPair.row p0)),.clo 118 []] []=some (.v (.b r),[])
noncomputable def vaC_fn3 (p0:GScore):Option Bool:=
 some (!(value_text_v p0.fMember))
noncomputable def vaC_fn3_v (p0:GScore):Bool:=(!(value_text_v p0.fMember))
theorem vaC_fn3_t (p0:GScore):vaC_fn3 p0=some (vaC_fn3_v p0):=by
 simp only [vaC_fn3,vaC_fn3_v]
def K_vaC_fn3 (C:aj):Prop:=∀(p0:GScore) (r:Bool),vaC_fn3 p0=some r→C 121 [.agg [.v (.s p0.fMember),.v (.i .i64 p0.fN)]] []=some (.v (.b r),[])
noncomputable def st_sIRvaC_fn3_0 (p0:List GScore) (p1:Int) (s:Int):Option (Int⊕(Int⊕Unit)):=
 match s with
 |p2=>
  bif decide (p2<p1) then
   oB (idx p0 p2) fun x1=>
   bif (vaC_fn3_v x1) then
    some (.inr (.inl p2))
   else
   some (.inl (IntKind.i64.wrap (p2+1)))
  else
  some (.inr (.inr ()))
noncomputable def sIRvaC_fn3 (p0:List GScore):Option Int:=
 oB (cM (st_sIRvaC_fn3_0 p0 (p0.length:Int)) 0) fun
 | .inl x1=>
  some x1
 | .inr _=>
  some (-1)
def K_sIRvaC_fn3 (C:aj):Prop:=∀(p0:List GScore) (r:Int),sIRvaC_fn3 p0=some r→C 137 [.v (.sl 2 (ah GScore.row p0)),.clo 121 []] []=some (.v (.i .i64 r),[])
noncomputable def sCRvaC_fn3 (p0:List GScore):Option Bool:=
 oB (sIRvaC_fn3 p0) fun x1=>
 some (decide (0≤x1))
def K_sCRvaC_fn3 (C:aj):Prop:=∀(p0:List GScore) (r:Bool),sCRvaC_fn3 p0=some r→C 120 [.v (.sl 2 (ah GScore.row p0)),.clo 121 []] []=some (.v (.b r),[])
noncomputable def value_count (p0:Int):Option Bool:=
 bif decide ((-1099511627776)≤p0) then
  some (decide (p0≤1099511627776))
 else
 some false
noncomputable def value_count_v (p0:Int):Bool:=(decide ((-1099511627776)≤p0)&&decide (p0≤1099511627776))
theorem value_count_t (p0:Int):value_count p0=some (value_count_v p0):=by
 simp only [value_count,value_count_v]
 cases decide ((-1099511627776)≤p0)<;>rfl
def K_value_count (C:aj):Prop:=∀(p0:Int) (r:Bool),value_count p0=some r→C 122 [.v (.i .i64 p0)] []=some (.v (.b r),[])
noncomputable def vaC_fn4 (p0:GScore):Option Bool:=
 some (!(value_count_v p0.fN))
noncomputable def vaC_fn4_v (p0:GScore):Bool:=(!(value_count_v p0.fN))
theorem vaC_fn4_t (p0:GScore):vaC_fn4 p0=some (vaC_fn4_v p0):=by
 simp only [vaC_fn4,vaC_fn4_v]
def K_vaC_fn4 (C:aj):Prop:=∀(p0:GScore) (r:Bool),vaC_fn4 p0=some r→C 123 [.agg [.v (.s p0.fMember),.v (.i .i64 p0.fN)]] []=some (.v (.b r),[])
noncomputable def st_sIRvaC_fn4_0 (p0:List GScore) (p1:Int) (s:Int):Option (Int⊕(Int⊕Unit)):=
 match s with
 |p2=>
  bif decide (p2<p1) then
   oB (idx p0 p2) fun x1=>
   bif (vaC_fn4_v x1) then
    some (.inr (.inl p2))
   else
   some (.inl (IntKind.i64.wrap (p2+1)))
  else
  some (.inr (.inr ()))
noncomputable def sIRvaC_fn4 (p0:List GScore):Option Int:=
 oB (cM (st_sIRvaC_fn4_0 p0 (p0.length:Int)) 0) fun
 | .inl x1=>
  some x1
 | .inr _=>
  some (-1)
def K_sIRvaC_fn4 (C:aj):Prop:=∀(p0:List GScore) (r:Int),sIRvaC_fn4 p0=some r→C 137 [.v (.sl 2 (ah GScore.row p0)),.clo 123 []] []=some (.v (.i .i64 r),[])
noncomputable def sCRvaC_fn4 (p0:List GScore):Option Bool:=
 oB (sIRvaC_fn4 p0) fun x1=>
 some (decide (0≤x1))
def K_sCRvaC_fn4 (C:aj):Prop:=∀(p0:List GScore) (r:Bool),sCRvaC_fn4 p0=some r→C 120 [.v (.sl 2 (ah GScore.row p0)),.clo 123 []] []=some (.v (.b r),[])
def cmpstring (a b:ByteArray):Option Int:=some (cmpS a b)
def cmpstring_v (a b:ByteArray):Int:=cmpS a b
theorem cmpstring_t (a b:ByteArray):cmpstring a b=some (cmpstring_v a b):=rfl
def K_cmpstring (C:aj):Prop:=∀(p0:ByteArray) (p1:ByteArray) (r:Int),cmpstring p0 p1=some r→C 144 [.v (.s p0),.v (.s p1)] []=some (.v (.i .i64 r),[])
noncomputable def ibCompareString_v (p0:ByteArray) (p1:ByteArray):Int:=
 (cmpstring_v p0 p1)
noncomputable def ibCompareString (p0:ByteArray) (p1:ByteArray):Option Int:=some (ibCompareString_v p0 p1)
theorem ibCompareString_t (p0:ByteArray) (p1:ByteArray):ibCompareString p0 p1=some (ibCompareString_v p0 p1):=rfl
def K_ibCompareString (C:aj):Prop:=∀(p0:ByteArray) (p1:ByteArray) (r:Int),ibCompareString p0 p1=some r→C 140 [.v (.s p0),.v (.s p1)] []=some (.v (.i .i64 r),[])
noncomputable def strings_Compare_v (p0:ByteArray) (p1:ByteArray):Int:=
 (ibCompareString_v p0 p1)
noncomputable def strings_Compare (p0:ByteArray) (p1:ByteArray):Option Int:=some (strings_Compare_v p0 p1)
theorem strings_Compare_t (p0:ByteArray) (p1:ByteArray):strings_Compare p0 p1=some (strings_Compare_v p0 p1):=rfl
def K_strings_Compare (C:aj):Prop:=∀(p0:ByteArray) (p1:ByteArray) (r:Int),strings_Compare p0 p1=some r→C 129 [.v (.s p0),.v (.s p1)] []=some (.v (.i .i64 r),[])
noncomputable def value_byField_v (p0:GPair) (p1:GPair):Int:=
 (strings_Compare_v p0.fField p1.fField)
noncomputable def value_byField (p0:GPair) (p1:GPair):Option Int:=some (value_byField_v p0 p1)
theorem value_byField_t (p0:GPair) (p1:GPair):value_byField p0 p1=some (value_byField_v p0 p1):=rfl
def K_value_byField (C:aj):Prop:=∀(p0:GPair) (p1:GPair) (r:Int),value_byField p0 p1=some r→C 125 [.agg [.v (.s p0.fField),.v (.s p0.fText)],.agg [.v (.s p1.fField),.v (.s p1.fText)]] []=some (.v (.i .i64 r),[])
noncomputable def st_value_rising_Pair_value_byField_0 (p0:List GPair) (s:Int):Option (Int⊕(Unit⊕Unit)):=
 match s with
 |p1=>
  bif decide (p1<(p0.length:Int)) then
   oB (idx p0 (IntKind.i64.wrap (p1-1))) fun x1=>
   oB (idx p0 p1) fun x2=>
   bif decide (0≤(value_byField_v x1 x2)) then
    some (.inr (.inl ()))
   else
   some (.inl (IntKind.i64.wrap (p1+1)))
  else
  some (.inr (.inr ()))
noncomputable def value_rising_Pair_value_byField (p0:List GPair):Option Bool:=
 oB (cM (st_value_rising_Pair_value_byField_0 p0) 1) fun
 | .inl _=>
  some false
 | .inr _=>
  some true
def K_value_rising_Pair_value_byField (C:aj):Prop:=∀(p0:List GPair) (r:Bool),value_rising_Pair_value_byField p0=some r→C 124 [.v (.sl 2 (ah GPair.row p0)),.clo 125 []] []=some (.v (.b r),[])
noncomputable def cmp_isNaN_int (p0:Int):Option Bool:=
 some false
noncomputable def cmp_isNaN_int_v (p0:Int):Bool:=false
theorem cmp_isNaN_int_t (p0:Int):cmp_isNaN_int p0=some (cmp_isNaN_int_v p0):=by
 simp only [cmp_isNaN_int,cmp_isNaN_int_v]
def K_cmp_isNaN_int (C:aj):Prop:=∀(p0:Int) (r:Bool),cmp_isNaN_int p0=some r→C 143 [.v (.i .i64 p0)] []=some (.v (.b r),[])
noncomputable def cmp_Compare_int_v (p0:Int) (p1:Int):Int:=
 bif (cmp_isNaN_int_v p0) then
  bif (cmp_isNaN_int_v p1) then
   0
  else
  (-1)
 else
 bif (cmp_isNaN_int_v p1) then
  1
 else
 bif decide (p0<p1) then
  (-1)
 else
 bif decide (p1<p0) then
  1
 else
 0
noncomputable def cmp_Compare_int (p0:Int) (p1:Int):Option Int:=some (cmp_Compare_int_v p0 p1)
theorem cmp_Compare_int_t (p0:Int) (p1:Int):cmp_Compare_int p0 p1=some (cmp_Compare_int_v p0 p1):=rfl
def K_cmp_Compare_int (C:aj):Prop:=∀(p0:Int) (p1:Int) (r:Int),cmp_Compare_int p0 p1=some r→C 139 [.v (.i .i64 p0),.v (.i .i64 p1)] []=some (.v (.i .i64 r),[])
noncomputable def st_cmp_Or_int_0 (p0:List Int) (p1:Int) (s:Int):Option (Int⊕(Int⊕Unit)):=
 match s with
 |p2=>
  bif decide (p2<p1) then
   oB (idx p0 p2) fun x1=>
   bif (x1==0) then
    some (.inl (IntKind.i64.wrap (p2+1)))
   else
   some (.inr (.inl x1))
  else
  some (.inr (.inr ()))
noncomputable def cmp_Or_int (p0:List Int):Option Int:=
 oB (cM (st_cmp_Or_int_0 p0 (p0.length:Int)) 0) fun
 | .inl x1=>
  some x1
 | .inr _=>
  some 0
def K_cmp_Or_int (C:aj):Prop:=∀(p0:List Int) (r:Int),cmp_Or_int p0=some r→C 138 [.v (.sl 1 (ah rowI p0))] []=some (.v (.i .i64 r),[])
noncomputable def value_byScore (p0:GScore) (p1:GScore):Option Int:=
 oB (cmp_Or_int [(cmp_Compare_int_v p0.fN p1.fN),(strings_Compare_v p0.fMember p1.fMember)]) fun x1=>
 some x1
def K_value_byScore (C:aj):Prop:=∀(p0:GScore) (p1:GScore) (r:Int),value_byScore p0 p1=some r→C 127 [.agg [.v (.s p0.fMember),.v (.i .i64 p0.fN)],.agg [.v (.s p1.fMember),.v (.i .i64 p1.fN)]] []=some (.v (.i .i64 r),[])
noncomputable def st_value_rising_Score_value_byScore_0 (p0:List GScore) (s:Int):Option (Int⊕(Unit⊕Unit)):=
 match s with
 |p1=>
  bif decide (p1<(p0.length:Int)) then
   oB (idx p0 (IntKind.i64.wrap (p1-1))) fun x1=>
   oB (idx p0 p1) fun x2=>
   oB (value_byScore x1 x2) fun x3=>
   bif decide (0≤x3) then
    some (.inr (.inl ()))
   else
   some (.inl (IntKind.i64.wrap (p1+1)))
  else
  some (.inr (.inr ()))
noncomputable def value_rising_Score_value_byScore (p0:List GScore):Option Bool:=
 oB (cM (st_value_rising_Score_value_byScore_0 p0) 1) fun
 | .inl _=>
  some false
 | .inr _=>
  some true
def K_value_rising_Score_value_byScore (C:aj):Prop:=∀(p0:List GScore) (r:Bool),value_rising_Score_value_byScore p0=some r→C 126 [.v (.sl 2 (ah GScore.row p0)),.clo 127 []] []=some (.v (.b r),[])
noncomputable def st_value_rising_string_strings_Compare_0 (p0:List ByteArray) (s:Int):Option (Int⊕(Unit⊕Unit)):=
 match s with
 |p1=>
  bif decide (p1<(p0.length:Int)) then
   oB (idx p0 (IntKind.i64.wrap (p1-1))) fun x1=>
   oB (idx p0 p1) fun x2=>
   bif decide (0≤(strings_Compare_v x1 x2)) then
    some (.inr (.inl ()))
   else
   some (.inl (IntKind.i64.wrap (p1+1)))
  else
  some (.inr (.inr ()))
noncomputable def value_rising_string_strings_Compare (p0:List ByteArray):Option Bool:=
 oB (cM (st_value_rising_string_strings_Compare_0 p0) 1) fun
 | .inl _=>
  some false
 | .inr _=>
  some true
def K_value_rising_string_strings_Compare (C:aj):Prop:=∀(p0:List ByteArray) (r:Bool),value_rising_string_strings_Compare p0=some r→C 128 [.v (.sl 1 (ah bY p0)),.clo 129 []] []=some (.v (.b r),[])
noncomputable def value_rank_fn1 (p0:GScore) (p1:ByteArray):Option (Bool×ByteArray):=
 some (cY p0.fMember p1,p1)
def K_value_rank_fn1 (C:aj):Prop:=∀(p0:GScore) (p1:ByteArray) (r:Bool×ByteArray),value_rank_fn1 p0 p1=some r→C 141 [.agg [.v (.s p0.fMember),.v (.i .i64 p0.fN)],.ptr 0 0] [[.v (.s p1)]]=some (.v (.b r.1),[[.v (.s r.2)]])
noncomputable def st_sIRvalue_rank_fn1_0 (p0:List GScore) (p1:Int) (s:Int×ByteArray):Option ((Int×ByteArray)⊕((Int×ByteArray)⊕ByteArray)):=
 match s with
 |(p2,p3)=>
  bif decide (p2<p1) then
   oB (idx p0 p2) fun x1=>
   oB (value_rank_fn1 x1 p3) fun (x2,x3)=>
   bif x2 then
    some (.inr (.inl (p2,x3)))
   else
   some (.inl ((IntKind.i64.wrap (p2+1)),x3))
  else
  some (.inr (.inr p3))
noncomputable def sIRvalue_rank_fn1 (p0:List GScore) (p1:ByteArray):Option (Int×ByteArray):=
 oB (cM (st_sIRvalue_rank_fn1_0 p0 (p0.length:Int)) (0,p1)) fun
 | .inl (x1,x2)=>
  some (x1,x2)
 | .inr x1=>
  some ((-1),x1)
def K_sIRvalue_rank_fn1 (C:aj):Prop:=∀(p0:List GScore) (p1:ByteArray) (r:Int×ByteArray),sIRvalue_rank_fn1 p0 p1=some r→C 137 [.v (.sl 2 (ah GScore.row p0)),.clo 141 [.ptr 0 0]] [[.v (.s p1)]]=some (.v (.i .i64 r.1),[[.v (.s r.2)]])
noncomputable def value_rank (p0:List GScore) (p1:ByteArray):Option Int:=
 oB (sIRvalue_rank_fn1 p0 p1) fun (x1,x2)=>
 some x1
def K_value_rank (C:aj):Prop:=∀(p0:List GScore) (p1:ByteArray) (r:Int),value_rank p0 p1=some r→C 130 [.v (.sl 2 (ah GScore.row p0)),.v (.s p1)] []=some (.v (.i .i64 r),[])
noncomputable def ck_vaC_k16_v (p0:GValue) (p1:Int) (p2:Int) (p3:List GPair) (p4:List ByteArray) (p5:List GScore):Bool:=
 bif decide (3≤p0.fKind) then
  bif decide ((value_elements_v p0)<1) then
   true
  else
  decide (20<(value_elements_v p0))
 else
 false
noncomputable def ck_vaC_k26 (p0:GValue) (p1:Int) (p2:Int) (p3:List GPair) (p4:List ByteArray) (p5:List GScore):Option Bool:=
 oB (value_rising_Pair_value_byField p0.fPairs) fun x1=>
 bif x1 then
  oB (value_rising_Score_value_byScore p0.fScores) fun x2=>
  bif x2 then
   bif (p0.fKind==5) then
    oB (value_rising_string_strings_Compare p0.fItems) fun x3=>
    some x3
   else
   some true
  else
  some false
 else
 some false
noncomputable def st_vaC_1 (p0:GValue) (p2:List GScore) (p3:Int) (p5:Int) (p6:Int) (p7:List GPair) (p8:List ByteArray) (s:Bool×Int):Option ((Bool×Int)⊕Bool):=
 match s with
 |(p1,p4)=>
  bif decide (p4<p3) then
   oB (idx p2 p4) fun x1=>
   bif p1 then
    bif rngB 0 p4 (p0.fScores.length:Int) then
     oB (value_rank (dm p0.fScores 0 p4) x1.fMember) fun x2=>
     some (.inl (decide (x2<0),(IntKind.i64.wrap (p4+1))))
    else
    none
   else
   some (.inl (false,(IntKind.i64.wrap (p4+1))))
  else
  some (.inr p1)
noncomputable def ck_vaC_k16v2_v (p0:GValue) (p1:Int) (p2:ByteArray) (p3:List GPair) (p4:List ByteArray) (p5:List GScore):Bool:=
 bif decide (3≤p0.fKind) then
  bif decide ((value_elements_v p0)<1) then
   true
  else
  decide (20<(value_elements_v p0))
 else
 false
noncomputable def ck_vaC_k26v2 (p0:GValue) (p1:Int) (p2:ByteArray) (p3:List GPair) (p4:List ByteArray) (p5:List GScore):Option Bool:=
 oB (value_rising_Pair_value_byField p0.fPairs) fun x1=>
 bif x1 then
  oB (value_rising_Score_value_byScore p0.fScores) fun x2=>
  bif x2 then
   bif (p0.fKind==5) then
    oB (value_rising_string_strings_Compare p0.fItems) fun x3=>
    some x3
   else
   some true
  else
  some false
 else
 some false
noncomputable def st_vaC_1v2 (p0:GValue) (p2:List GScore) (p3:Int) (p5:Int) (p6:ByteArray) (p7:List GPair) (p8:List ByteArray) (s:Bool×Int):Option ((Bool×Int)⊕Bool):=
 match s with
 |(p1,p4)=>
  bif decide (p4<p3) then
   oB (idx p2 p4) fun x1=>
   bif p1 then
    bif rngB 0 p4 (p0.fScores.length:Int) then
     oB (value_rank (dm p0.fScores 0 p4) x1.fMember) fun x2=>
     some (.inl (decide (x2<0),(IntKind.i64.wrap (p4+1))))
    else
    none
   else
   some (.inl (false,(IntKind.i64.wrap (p4+1))))
  else
  some (.inr p1)
noncomputable def ck_vaC_k16v3_v (p0:GValue) (p1:Int) (p2:ByteArray) (p3:Int) (p4:List ByteArray) (p5:List GScore):Bool:=
 bif decide (3≤p0.fKind) then
  bif decide ((value_elements_v p0)<1) then
   true
  else
  decide (20<(value_elements_v p0))
 else
 false
noncomputable def ck_vaC_k26v3 (p0:GValue) (p1:Int) (p2:ByteArray) (p3:Int) (p4:List ByteArray) (p5:List GScore):Option Bool:=
 oB (value_rising_Pair_value_byField p0.fPairs) fun x1=>
 bif x1 then
  oB (value_rising_Score_value_byScore p0.fScores) fun x2=>
  bif x2 then
   bif (p0.fKind==5) then
    oB (value_rising_string_strings_Compare p0.fItems) fun x3=>
    some x3
   else
   some true
  else
  some false
 else
 some false
noncomputable def st_vaC_1v3 (p0:GValue) (p2:List GScore) (p3:Int) (p5:Int) (p6:ByteArray) (p7:Int) (p8:List ByteArray) (s:Bool×Int):Option ((Bool×Int)⊕Bool):=
 match s with
 |(p1,p4)=>
  bif decide (p4<p3) then
   oB (idx p2 p4) fun x1=>
   bif p1 then
    bif rngB 0 p4 (p0.fScores.length:Int) then
     oB (value_rank (dm p0.fScores 0 p4) x1.fMember) fun x2=>
     some (.inl (decide (x2<0),(IntKind.i64.wrap (p4+1))))
    else
    none
   else
   some (.inl (false,(IntKind.i64.wrap (p4+1))))
  else
  some (.inr p1)
noncomputable def ck_vaC_k16v4_v (p0:GValue) (p1:Int) (p2:ByteArray) (p3:Int) (p4:List GPair) (p5:List ByteArray):Bool:=
 bif decide (3≤p0.fKind) then
  bif decide ((value_elements_v p0)<1) then
   true
  else
  decide (20<(value_elements_v p0))
 else
 false
noncomputable def ck_vaC_k26v4 (p0:GValue) (p1:Int) (p2:ByteArray) (p3:Int) (p4:List GPair) (p5:List ByteArray):Option Bool:=
 oB (value_rising_Pair_value_byField p0.fPairs) fun x1=>
 bif x1 then
  oB (value_rising_Score_value_byScore p0.fScores) fun x2=>
  bif x2 then
   bif (p0.fKind==5) then
    oB (value_rising_string_strings_Compare p0.fItems) fun x3=>
    some x3
   else
   some true
  else
  some false
 else
 some false
noncomputable def st_vaC_1v4 (p0:GValue) (p2:List GScore) (p3:Int) (p5:Int) (p6:ByteArray) (p7:Int) (p8:List GPair) (p9:List ByteArray) (s:Bool×Int):Option ((Bool×Int)⊕Bool):=
 match s with
 |(p1,p4)=>
  bif decide (p4<p3) then
   oB (idx p2 p4) fun x1=>
   bif p1 then
    bif rngB 0 p4 (p0.fScores.length:Int) then
     oB (value_rank (dm p0.fScores 0 p4) x1.fMember) fun x2=>
     some (.inl (decide (x2<0),(IntKind.i64.wrap (p4+1))))
    else
    none
   else
   some (.inl (false,(IntKind.i64.wrap (p4+1))))
  else
  some (.inr p1)
noncomputable def ck_vaC_k16v5_v (p0:GValue) (p1:Int) (p2:ByteArray) (p3:Int) (p4:List GPair) (p5:List GScore):Bool:=
 bif decide (3≤p0.fKind) then
  bif decide ((value_elements_v p0)<1) then
   true
  else
  decide (20<(value_elements_v p0))
 else
 false
noncomputable def ck_vaC_k26v5 (p0:GValue) (p1:Int) (p2:ByteArray) (p3:Int) (p4:List GPair) (p5:List GScore):Option Bool:=
 oB (value_rising_Pair_value_byField p0.fPairs) fun x1=>
 bif x1 then
  oB (value_rising_Score_value_byScore p0.fScores) fun x2=>
  bif x2 then
   bif (p0.fKind==5) then
    oB (value_rising_string_strings_Compare p0.fItems) fun x3=>
    some x3
   else
   some true
  else
  some false
 else
 some false
noncomputable def st_vaC_1v5 (p0:GValue) (p2:List GScore) (p3:Int) (p5:Int) (p6:ByteArray) (p7:Int) (p8:List GPair) (s:Bool×Int):Option ((Bool×Int)⊕Bool):=
 match s with
 |(p1,p4)=>
  bif decide (p4<p3) then
   oB (idx p2 p4) fun x1=>
   bif p1 then
    bif rngB 0 p4 (p0.fScores.length:Int) then
     oB (value_rank (dm p0.fScores 0 p4) x1.fMember) fun x2=>
     some (.inl (decide (x2<0),(IntKind.i64.wrap (p4+1))))
    else
    none
   else
   some (.inl (false,(IntKind.i64.wrap (p4+1))))
  else
  some (.inr p1)
noncomputable def vaC_c0 (p0:GValue) (x1:Bool) (x2:Bool) (x3:Bool):Option Int:=
 bif x3 then
  some 1
 else
 bif (value_count_v p0.fCount) then
  oB (sCRvaC_fn4 p0.fScores) fun x4=>
  bif x4 then
   some 2
  else
  oB (ck_vaC_k26 p0 p0.fKind p0.fCount p0.fPairs p0.fItems p0.fScores) fun x5=>
  oB (cM (st_vaC_1 p0 p0.fScores (p0.fScores.length:Int) p0.fKind p0.fCount p0.fPairs p0.fItems) (x5,0)) fun x6=>
  bif x6 then
   some 0
  else
  some 10
 else
 some 2
noncomputable def vaC_c1 (p0:GValue):Option Int:=
 bif (ck_vaC_k16_v p0 p0.fKind p0.fCount p0.fPairs p0.fItems p0.fScores) then
  some 1
 else
 bif (value_text_v p0.fText) then
  oB (sCSvaC_fn1 p0.fItems) fun x1=>
  bif x1 then
   some 1
  else
  oB (sCPvaC_fn2 p0.fPairs) fun x2=>
  bif x2 then
   some 1
  else
  oB (sCRvaC_fn3 p0.fScores) fun x3=>
  vaC_c0 p0 x1 x2 x3
 else
 some 1
noncomputable def vaC_c2 (p0:GValue) (x1:Bool) (x2:Bool) (x3:Bool):Option Int:=
 bif x3 then
  some 1
 else
 bif (value_count_v p0.fCount) then
  oB (sCRvaC_fn4 p0.fScores) fun x4=>
  bif x4 then
   some 2
  else
  oB (ck_vaC_k26v2 p0 p0.fKind p0.fText p0.fPairs p0.fItems p0.fScores) fun x5=>
  oB (cM (st_vaC_1v2 p0 p0.fScores (p0.fScores.length:Int) p0.fKind p0.fText p0.fPairs p0.fItems) (x5,0)) fun x6=>
  bif x6 then
   some 0
  else
  some 10
 else
 some 2
noncomputable def vaC_c3 (p0:GValue):Option Int:=
 bif (ck_vaC_k16v2_v p0 p0.fKind p0.fText p0.fPairs p0.fItems p0.fScores) then
  some 1
 else
 bif (value_text_v p0.fText) then
  oB (sCSvaC_fn1 p0.fItems) fun x1=>
  bif x1 then
   some 1
  else
  oB (sCPvaC_fn2 p0.fPairs) fun x2=>
  bif x2 then
   some 1
  else
  oB (sCRvaC_fn3 p0.fScores) fun x3=>
  vaC_c2 p0 x1 x2 x3
 else
 some 1
noncomputable def vaC_c4 (p0:GValue) (x1:Bool) (x2:Bool) (x3:Bool):Option Int:=
 bif x3 then
  some 1
 else
 bif (value_count_v p0.fCount) then
  oB (sCRvaC_fn4 p0.fScores) fun x4=>
  bif x4 then
   some 2
  else
  oB (ck_vaC_k26v3 p0 p0.fKind p0.fText p0.fCount p0.fItems p0.fScores) fun x5=>
  oB (cM (st_vaC_1v3 p0 p0.fScores (p0.fScores.length:Int) p0.fKind p0.fText p0.fCount p0.fItems) (x5,0)) fun x6=>
  bif x6 then
   some 0
  else
  some 10
 else
 some 2
noncomputable def vaC_c5 (p0:GValue):Option Int:=
 bif (ck_vaC_k16v3_v p0 p0.fKind p0.fText p0.fCount p0.fItems p0.fScores) then
  some 1
 else
 bif (value_text_v p0.fText) then
  oB (sCSvaC_fn1 p0.fItems) fun x1=>
  bif x1 then
   some 1
  else
  oB (sCPvaC_fn2 p0.fPairs) fun x2=>
  bif x2 then
   some 1
  else
  oB (sCRvaC_fn3 p0.fScores) fun x3=>
  vaC_c4 p0 x1 x2 x3
 else
 some 1
noncomputable def vaC_c6 (p0:GValue) (x1:Bool) (x2:Bool) (x3:Bool):Option Int:=
 bif x3 then
  some 1
 else
 bif (value_count_v p0.fCount) then
  oB (sCRvaC_fn4 p0.fScores) fun x4=>
  bif x4 then
   some 2
  else
  oB (ck_vaC_k26v4 p0 p0.fKind p0.fText p0.fCount p0.fPairs p0.fItems) fun x5=>
  oB (cM (st_vaC_1v4 p0 p0.fScores (p0.fScores.length:Int) p0.fKind p0.fText p0.fCount p0.fPairs p0.fItems) (x5,0)) fun x6=>
  bif x6 then
   some 0
  else
  some 10
 else
 some 2
noncomputable def vaC_c7 (p0:GValue):Option Int:=
 bif (ck_vaC_k16v4_v p0 p0.fKind p0.fText p0.fCount p0.fPairs p0.fItems) then
  some 1
 else
 bif (value_text_v p0.fText) then
  oB (sCSvaC_fn1 p0.fItems) fun x1=>
  bif x1 then
   some 1
  else
  oB (sCPvaC_fn2 p0.fPairs) fun x2=>
  bif x2 then
   some 1
  else
  oB (sCRvaC_fn3 p0.fScores) fun x3=>
  vaC_c6 p0 x1 x2 x3
 else
 some 1
noncomputable def vaC_c8 (p0:GValue) (x1:Bool) (x2:Bool) (x3:Bool):Option Int:=
 bif x3 then
  some 1
 else
 bif (value_count_v p0.fCount) then
  oB (sCRvaC_fn4 p0.fScores) fun x4=>
  bif x4 then
   some 2
  else
  oB (ck_vaC_k26v5 p0 p0.fKind p0.fText p0.fCount p0.fPairs p0.fScores) fun x5=>
  oB (cM (st_vaC_1v5 p0 p0.fScores (p0.fScores.length:Int) p0.fKind p0.fText p0.fCount p0.fPairs) (x5,0)) fun x6=>
  bif x6 then
   some 0
  else
  some 10
 else
 some 2
noncomputable def vaC_c9 (p0:GValue):Option Int:=
 bif (ck_vaC_k16v5_v p0 p0.fKind p0.fText p0.fCount p0.fPairs p0.fScores) then
  some 1
 else
 bif (value_text_v p0.fText) then
  oB (sCSvaC_fn1 p0.fItems) fun x1=>
  bif x1 then
   some 1
  else
  oB (sCPvaC_fn2 p0.fPairs) fun x2=>
  bif x2 then
   some 1
  else
  oB (sCRvaC_fn3 p0.fScores) fun x3=>
  vaC_c8 p0 x1 x2 x3
 else
 some 1
noncomputable def vaC_c10 (p0:GValue):Option Int:=
 bif (p0.fKind==6) then
  bif cY p0.fText ByteArray.empty then
   bif (p0.fCount==0) then
    bif decide (0<(value_elements_v (GValue.mk p0.fKind p0.fText p0.fCount p0.fPairs p0.fItems []))) then
     some 8
    else
    vaC_c7 p0
   else
   some 8
  else
  some 8
 else
 bif cY p0.fText ByteArray.empty then
  bif (p0.fCount==0) then
   bif decide (0<(value_elements_v (GValue.mk p0.fKind p0.fText p0.fCount p0.fPairs [] p0.fScores))) then
    some 8
   else
   vaC_c9 p0
  else
  some 8
 else
 some 8
noncomputable def vaC_c11 (p0:GValue):Option Int:=
 bif (p0.fKind==2) then
  bif cY p0.fText ByteArray.empty then
   bif decide (0<(value_elements_v (GValue.mk p0.fKind p0.fText 0 p0.fPairs p0.fItems p0.fScores))) then
    some 8
   else
   vaC_c3 p0
  else
  some 8
 else
 bif (p0.fKind==3) then
  bif cY p0.fText ByteArray.empty then
   bif (p0.fCount==0) then
    bif decide (0<(value_elements_v (GValue.mk p0.fKind p0.fText p0.fCount [] p0.fItems p0.fScores))) then
     some 8
    else
    vaC_c5 p0
   else
   some 8
  else
  some 8
 else
 vaC_c10 p0
noncomputable def vaC (p0:GValue):Option Int:=
 bif decide (p0.fKind<1) then
  some 3
 else
 bif decide (6<p0.fKind) then
  some 3
 else
 bif (p0.fKind==1) then
  bif (p0.fCount==0) then
   bif decide (0<(value_elements_v (GValue.mk p0.fKind ByteArray.empty p0.fCount p0.fPairs p0.fItems p0.fScores))) then
    some 8
   else
   vaC_c1 p0
  else
  some 8
 else
 vaC_c11 p0
def K_vaC (C:aj):Prop:=∀(p0:GValue) (r:Int),vaC p0=some r→C 90 [.agg [.v (.i .i64 p0.fKind),.v (.s p0.fText),.v (.i .i64 p0.fCount),.v (.sl 2 (ah GPair.row p0.fPairs)),.v (.sl 1 (ah bY p0.fItems)),.v (.sl 2 (ah GScore.row p0.fScores))]] []=some (.v (.i .i64 r),[])
noncomputable def ck_store_Check_k1_v (p0:GStore):Bool:=
 bif decide (p0.fNow<0) then
  true
 else
 bif decide (1073741824<p0.fNow) then
  true
 else
 decide (12<(p0.fEntries.length:Int))
noncomputable def ck_store_Check_k6v2 (p0:GStore) (p1:Int) (p2:List GEntry) (p3:Int) (p4:GEntry):Option Bool:=
 bif decide ((p4.fKey.size:Int)<1) then
  some true
 else
 bif decide (12<(p4.fKey.size:Int)) then
  some true
 else
 oB (vaC p4.fValue) fun x1=>
 bif (x1==0) then
  bif decide (0<p1) then
   oB (idx p0.fEntries (IntKind.i64.wrap (p1-1))) fun x2=>
   some (!sltB x2.fKey p4.fKey)
  else
  some false
 else
 some true
noncomputable def ck_store_Check_k8v2_v (p0:GStore) (p1:List GEntry) (p2:Int) (p3:Int) (p4:GEntry):Bool:=
 bif (p4.fUntil==0) then
  false
 else
 bif decide (p4.fUntil≤p0.fNow) then
  true
 else
 decide (1073741824<p4.fUntil)
noncomputable def st_store_Check_0 (p0:GStore) (p1:List GEntry) (p2:Int) (s:Int):Option (Int⊕(GEntry⊕Unit)):=
 match s with
 |p3=>
  bif decide (p3<p2) then
   oB (idx p1 p3) fun x1=>
   oB (ck_store_Check_k6v2 p0 p3 p1 p2 x1) fun x2=>
   bif x2 then
    some (.inr (.inl x1))
   else
   bif (ck_store_Check_k8v2_v p0 p1 p2 p3 x1) then
    some (.inr (.inl x1))
   else
   some (.inl (IntKind.i64.wrap (p3+1)))
  else
  some (.inr (.inr ()))
noncomputable def store_Check (p0:GStore):Option Int:=
 bif (ck_store_Check_k1_v p0) then
  some 13
 else
 oB (cM (st_store_Check_0 p0 p0.fEntries (p0.fEntries.length:Int)) 0) fun
 | .inl x1=>
  some 13
 | .inr _=>
  some 0
def K_store_Check (C:aj):Prop:=∀(p0:GStore) (r:Int),store_Check p0=some r→C 71 [.agg [.v (.i .i64 p0.fNow),.v (.sl 8 (ah GEntry.row p0.fEntries))]] []=some (.v (.i .i64 r),[])
noncomputable def clCReply_fn1 (p0:ByteArray):Option Bool:=
 some (decide (20<(p0.size:Int)))
noncomputable def clCReply_fn1_v (p0:ByteArray):Bool:=decide (20<(p0.size:Int))
theorem clCReply_fn1_t (p0:ByteArray):clCReply_fn1 p0=some (clCReply_fn1_v p0):=by
 simp only [clCReply_fn1,clCReply_fn1_v]
def K_clCReply_fn1 (C:aj):Prop:=∀(p0:ByteArray) (r:Bool),clCReply_fn1 p0=some r→C 92 [.v (.s p0)] []=some (.v (.b r),[])
noncomputable def st_sISclCReply_fn1_0 (p0:List ByteArray) (p1:Int) (s:Int):Option (Int⊕(Int⊕Unit)):=
 match s with
 |p2=>
  bif decide (p2<p1) then
   oB (idx p0 p2) fun x1=>
   bif (clCReply_fn1_v x1) then
    some (.inr (.inl p2))
   else
   some (.inl (IntKind.i64.wrap (p2+1)))
  else
  some (.inr (.inr ()))
noncomputable def sISclCReply_fn1 (p0:List ByteArray):Option Int:=
 oB (cM (st_sISclCReply_fn1_0 p0 (p0.length:Int)) 0) fun
 | .inl x1=>
  some x1
 | .inr _=>
  some (-1)
def K_sISclCReply_fn1 (C:aj):Prop:=∀(p0:List ByteArray) (r:Int),sISclCReply_fn1 p0=some r→C 131 [.v (.sl 1 (ah bY p0)),.clo 92 []] []=some (.v (.i .i64 r),[])
noncomputable def sCSclCReply_fn1 (p0:List ByteArray):Option Bool:=
 oB (sISclCReply_fn1 p0) fun x1=>
 some (decide (0≤x1))
def K_sCSclCReply_fn1 (C:aj):Prop:=∀(p0:List ByteArray) (r:Bool),sCSclCReply_fn1 p0=some r→C 91 [.v (.sl 1 (ah bY p0)),.clo 92 []] []=some (.v (.b r),[])
noncomputable def clCReply_c0 (p0:GReply):Option Int:=
 bif decide (13<p0.fCode) then
  some 3
 else
 bif decide (20<(p0.fText.size:Int)) then
  some 1
 else
 bif decide (20<(p0.fList.length:Int)) then
  some 1
 else
 oB (sCSclCReply_fn1 p0.fList) fun x1=>
 bif x1 then
  some 1
 else
 bif decide (p0.fN<(-1099511627776)) then
  some 2
 else
 bif decide (1099511627776<p0.fN) then
  some 2
 else
 some 0
noncomputable def clCReply (p0:GReply):Option Int:=
 bif decide (p0.fCode<0) then
  some 3
 else
 clCReply_c0 p0
def K_clCReply (C:aj):Prop:=∀(p0:GReply) (r:Int),clCReply p0=some r→C 72 [.agg [.v (.i .i64 p0.fCode),.v (.s p0.fText),.v (.i .i64 p0.fN),.v (.sl 1 (ah bY p0.fList))]] []=some (.v (.i .i64 r),[])
noncomputable def ck_clC_k1 (p0:GMachine):Option Bool:=
 oB (store_Check p0.fStore) fun x1=>
 bif (x1==0) then
  bif decide (p0.fNext<1) then
   some true
  else
  bif decide (1048577<p0.fNext) then
   some true
  else
  some (decide (4<(p0.fClients.length:Int)))
 else
 some true
noncomputable def ck_clC_k6v2 (p0:GMachine) (p1:Int) (p2:List GClient) (p3:Int) (p4:GClient):Option Bool:=
 bif decide (p4.fId<1) then
  some true
 else
 bif decide (p0.fNext≤p4.fId) then
  some true
 else
 bif decide (0<p1) then
  oB (idx p0.fClients (IntKind.i64.wrap (p1-1))) fun x1=>
  some (decide (p4.fId≤x1.fId))
 else
 some false
noncomputable def ck_clC_k8v2 (p0:GMachine) (p1:List GClient) (p2:Int) (p3:Int) (p4:GClient):Option Bool:=
 bif decide (p4.fSeq<0) then
  some true
 else
 bif decide (1048576<p4.fSeq) then
  some true
 else
 bif decide (p4.fTime<0) then
  some true
 else
 bif decide (p0.fStore.fNow<p4.fTime) then
  some true
 else
 oB (clCReply p4.fReply) fun x1=>
 some (!(x1==0))
noncomputable def st_clC_0 (p0:GMachine) (p1:List GClient) (p2:Int) (s:Int):Option (Int⊕(GClient⊕Unit)):=
 match s with
 |p3=>
  bif decide (p3<p2) then
   oB (idx p1 p3) fun x1=>
   oB (ck_clC_k6v2 p0 p3 p1 p2 x1) fun x2=>
   bif x2 then
    some (.inr (.inl x1))
   else
   oB (ck_clC_k8v2 p0 p1 p2 p3 x1) fun x3=>
   bif x3 then
    some (.inr (.inl x1))
   else
   some (.inl (IntKind.i64.wrap (p3+1)))
  else
  some (.inr (.inr ()))
noncomputable def clC (p0:GMachine):Option Int:=
 oB (ck_clC_k1 p0) fun x1=>
 bif x1 then
  some 13
 else
 oB (cM (st_clC_0 p0 p0.fClients (p0.fClients.length:Int)) 0) fun
 | .inl x2=>
  some 13
 | .inr _=>
  some 0
def K_clC (C:aj):Prop:=∀(p0:GMachine) (r:Int),clC p0=some r→C 33 [.agg [.v (.i .i64 p0.fStore.fNow),.v (.sl 8 (ah GEntry.row p0.fStore.fEntries)),.v (.i .i64 p0.fNext),.v (.sl 7 (ah GClient.row p0.fClients))]] []=some (.v (.i .i64 r),[])
noncomputable def wire_Decode_c0 (p0:List Int) (x1:List Int) (x2:Int) (x3:Greader):Option (GMachine×Int):=
 oB (wreach_wire_Decode_fn1 x3 (GMachine.mk (GStore.mk x2 []) 0 [])) fun (x4,x5)=>
 oB (wrnumber x4) fun (x6,x7)=>
 oB (wreach_wire_Decode_fn2 x7 (GMachine.mk x5.fStore x6 x5.fClients)) fun (x8,x9)=>
 oB (wrend true x8) fun (x10,x11)=>
 bif (x10==0) then
  oB (clC x9) fun x12=>
  bif (x12==0) then
   some (x9,0)
  else
  some ((GMachine.mk (GStore.mk 0 []) 0 []),x12)
 else
 some ((GMachine.mk (GStore.mk 0 []) 0 []),x10)
noncomputable def wire_Decode (p0:List Int):Option (GMachine×Int):=
 bif decide (20000<(p0.length:Int)) then
  some ((GMachine.mk (GStore.mk 0 []) 0 []),1)
 else
 oB (sKbyte_byte_z p0) fun x1=>
 oB (wrnumber (Greader.mk x1 false)) fun (x2,x3)=>
 wire_Decode_c0 p0 x1 x2 x3
def K_wire_Decode (C:aj):Prop:=∀(p0:List Int) (r:GMachine×Int),wire_Decode p0=some r→C 7 [.v (.sl 1 (ah cE p0))] []=some (.tup [.agg [.v (.i .i64 r.1.fStore.fNow),.v (.sl 8 (ah GEntry.row r.1.fStore.fEntries)),.v (.i .i64 r.1.fNext),.v (.sl 7 (ah GClient.row r.1.fClients))],.v (.i .i64 r.2)],[])
noncomputable def rrscan_next (p0:Gscan):Option (Int×Gscan):=
 bif decide ((p0.fb.length:Int)<(IntKind.i64.wrap (p0.fat+1))) then
  some (0,(Gscan.mk p0.fb (IntKind.i64.wrap (p0.fat+1))))
 else
 oB (idx p0.fb (IntKind.i64.wrap ((IntKind.i64.wrap (p0.fat+1))-1))) fun x1=>
 some ((IntKind.i64.wrap x1),(Gscan.mk p0.fb (IntKind.i64.wrap (p0.fat+1))))
def K_rrscan_next (C:aj):Prop:=∀(p0:Gscan) (r:Int×Gscan),rrscan_next p0=some r→C 35 [.ptr 0 0] [[.v (.sl 1 (ah cE p0.fb)),.v (.i .i64 p0.fat)]]=some (.v (.i .i64 r.1),[[.v (.sl 1 (ah cE r.2.fb)),.v (.i .i64 r.2.fat)]])
noncomputable def st_rrscan_long_0  (s:Int×Int×Gscan):Option ((Int×Int×Gscan)⊕(Int×Gscan)):=
 match s with
 |(p0,p1,p2)=>
  bif decide (p1<8) then
   oB (rrscan_next p2) fun (x1,x2)=>
   some (.inl ((IntKind.i64.wrap ((IntKind.i64.wrap (p0*256))+x1)),(IntKind.i64.wrap (p1+1)),x2))
  else
  some (.inr (p0,p2))
noncomputable def rrscan_long (p0:Gscan):Option (Int×Gscan):=
 oB (cM (st_rrscan_long_0) (0,0,p0)) fun (x1,x2)=>
 some ((IntKind.i64.wrap (x1-4611686018427387904)),x2)
def K_rrscan_long (C:aj):Prop:=∀(p0:Gscan) (r:Int×Gscan),rrscan_long p0=some r→C 34 [.ptr 0 0] [[.v (.sl 1 (ah cE p0.fb)),.v (.i .i64 p0.fat)]]=some (.v (.i .i64 r.1),[[.v (.sl 1 (ah cE r.2.fb)),.v (.i .i64 r.2.fat)]])
noncomputable def rrscan_over (p0:Gscan):Option (Bool×Gscan):=
 some (decide ((p0.fb.length:Int)<p0.fat),p0)
def K_rrscan_over (C:aj):Prop:=∀(p0:Gscan) (r:Bool×Gscan),rrscan_over p0=some r→C 36 [.ptr 0 0] [[.v (.sl 1 (ah cE p0.fb)),.v (.i .i64 p0.fat)]]=some (.v (.b r.1),[[.v (.sl 1 (ah cE r.2.fb)),.v (.i .i64 r.2.fat)]])
noncomputable def st_rrscan_str_0 (p0:Int) (s:(List Int)×Int×Gscan):Option (((List Int)×Int×Gscan)⊕((List Int)×Gscan)):=
 match s with
 |(p1,p2,p3)=>
  bif decide (p2<p0) then
   oB (rrscan_over p3) fun (x1,x2)=>
   bif x1 then
    some (.inr (p1,x2))
   else
   oB (rrscan_next x2) fun (x3,x4)=>
   bif dh (p1.length+1) 1 then
    some (.inl ((p1++ [(IntKind.u8.wrap x3)]),(IntKind.i64.wrap (p2+1)),x4))
   else
   none
  else
  some (.inr (p1,p3))
noncomputable def rrscan_str (p0:Gscan):Option (ByteArray×Gscan):=
 oB (rrscan_next p0) fun (x1,x2)=>
 oB (cM (st_rrscan_str_0 x1) ([],0,x2)) fun (x3,x4)=>
 bif allB x3 then
  some ((strL x3),x4)
 else
 none
def K_rrscan_str (C:aj):Prop:=∀(p0:Gscan) (r:ByteArray×Gscan),rrscan_str p0=some r→C 37 [.ptr 0 0] [[.v (.sl 1 (ah cE p0.fb)),.v (.i .i64 p0.fat)]]=some (.v (.s r.1),[[.v (.sl 1 (ah cE r.2.fb)),.v (.i .i64 r.2.fat)]])
noncomputable def st_rrscan_strs_0 (p0:Int) (s:(List ByteArray)×Int×Gscan):Option (((List ByteArray)×Int×Gscan)⊕((List ByteArray)×Gscan)):=
 match s with
 |(p1,p2,p3)=>
  bif decide (p2<p0) then
   oB (rrscan_over p3) fun (x1,x2)=>
   bif x1 then
    some (.inr (p1,x2))
   else
   oB (rrscan_str x2) fun (x3,x4)=>
   bif dh (p1.length+1) 16 then
    some (.inl ((p1++ [x3]),(IntKind.i64.wrap (p2+1)),x4))
   else
   none
  else
  some (.inr (p1,p3))
noncomputable def rrscan_strs (p0:Gscan):Option ((List ByteArray)×Gscan):=
 oB (rrscan_next p0) fun (x1,x2)=>
 oB (cM (st_rrscan_strs_0 x1) ([],0,x2)) fun (x3,x4)=>
 some (x3,x4)
def K_rrscan_strs (C:aj):Prop:=∀(p0:Gscan) (r:(List ByteArray)×Gscan),rrscan_strs p0=some r→C 39 [.ptr 0 0] [[.v (.sl 1 (ah cE p0.fb)),.v (.i .i64 p0.fat)]]=some (.own 1 (ah bY r.1),[[.v (.sl 1 (ah cE r.2.fb)),.v (.i .i64 r.2.fat)]])
noncomputable def st_rrscan_valueNext_0 (p0:Int) (s:Int×Gscan×GValue):Option ((Int×Gscan×GValue)⊕(Gscan×GValue)):=
 match s with
 |(p1,p2,p3)=>
  bif decide (p1<p0) then
   oB (rrscan_over p2) fun (x1,x2)=>
   bif x1 then
    some (.inr (x2,p3))
   else
   oB (rrscan_str x2) fun (x3,x4)=>
   oB (rrscan_str x4) fun (x5,x6)=>
   bif dh (p3.fPairs.length+1) 32 then
    some (.inl ((IntKind.i64.wrap (p1+1)),x6,(GValue.mk p3.fKind p3.fText p3.fCount (p3.fPairs++ [(GPair.mk x3 x5)]) p3.fItems p3.fScores)))
   else
   none
  else
  some (.inr (p2,p3))
noncomputable def st_rrscan_valueNext_2 (p0:Int) (s:Int×Gscan×GValue):Option ((Int×Gscan×GValue)⊕(Gscan×GValue)):=
 match s with
 |(p1,p2,p3)=>
  bif decide (p1<p0) then
   oB (rrscan_over p2) fun (x1,x2)=>
   bif x1 then
    some (.inr (x2,p3))
   else
   oB (rrscan_str x2) fun (x3,x4)=>
   oB (rrscan_long x4) fun (x5,x6)=>
   bif dh (p3.fScores.length+1) 24 then
    some (.inl ((IntKind.i64.wrap (p1+1)),x6,(GValue.mk p3.fKind p3.fText p3.fCount p3.fPairs p3.fItems (p3.fScores++ [(GScore.mk x3 x5)]))))
   else
   none
  else
  some (.inr (p2,p3))
noncomputable def rrscan_valueNext_c0 (p0:Gscan) (x1:Int) (x2:Gscan) (x3:ByteArray) (x4:Gscan) (x5:Int) (x6:Gscan) (x7:Int) (x8:Gscan) (x9:Gscan) (x10:GValue):Option (GValue×Gscan):=
 oB (rrscan_strs x9) fun (x11,x12)=>
 oB (rrscan_next x12) fun (x13,x14)=>
 oB (cM (st_rrscan_valueNext_2 x13) (0,x14,(GValue.mk x10.fKind x10.fText x10.fCount x10.fPairs x11 x10.fScores))) fun (x15,x16)=>
 some (x16,x15)
noncomputable def rrscan_valueNext (p0:Gscan):Option (GValue×Gscan):=
 oB (rrscan_next p0) fun (x1,x2)=>
 oB (rrscan_str x2) fun (x3,x4)=>
 oB (rrscan_long x4) fun (x5,x6)=>
 oB (rrscan_next x6) fun (x7,x8)=>
 oB (cM (st_rrscan_valueNext_0 x7) (0,x8,(GValue.mk x1 x3 x5 [] [] []))) fun (x9,x10)=>
 rrscan_valueNext_c0 p0 x1 x2 x3 x4 x5 x6 x7 x8 x9 x10
def K_rrscan_valueNext (C:aj):Prop:=∀(p0:Gscan) (r:GValue×Gscan),rrscan_valueNext p0=some r→C 38 [.ptr 0 0] [[.v (.sl 1 (ah cE p0.fb)),.v (.i .i64 p0.fat)]]=some (.agg [.v (.i .i64 r.1.fKind),.v (.s r.1.fText),.v (.i .i64 r.1.fCount),.own 2 (ah GPair.row r.1.fPairs),.own 1 (ah bY r.1.fItems),.own 2 (ah GScore.row r.1.fScores)],[[.v (.sl 1 (ah cE r.2.fb)),.v (.i .i64 r.2.fat)]])
noncomputable def rrscan_end (p0:Bool) (p1:Gscan):Option (Int×Gscan):=
 oB (rrscan_over p1) fun (x1,x2)=>
 bif x1 then
  some (9,x2)
 else
 bif p0 then
  bif decide (x2.fat<(x2.fb.length:Int)) then
   some (8,x2)
  else
  some (0,x2)
 else
 some (8,x2)
def K_rrscan_end (C:aj):Prop:=∀(p0:Bool) (p1:Gscan) (r:Int×Gscan),rrscan_end p0 p1=some r→C 40 [.ptr 0 0,.v (.b p0)] [[.v (.sl 1 (ah cE p1.fb)),.v (.i .i64 p1.fat)]]=some (.v (.i .i64 r.1),[[.v (.sl 1 (ah cE r.2.fb)),.v (.i .i64 r.2.fat)]])
noncomputable def rrIn (p0:Int) (p1:Int) (p2:Int):Option Bool:=
 bif decide (p1≤p0) then
  some (decide (p0≤p2))
 else
 some false
noncomputable def rrIn_v (p0:Int) (p1:Int) (p2:Int):Bool:=(decide (p1≤p0)&&decide (p0≤p2))
theorem rrIn_t (p0:Int) (p1:Int) (p2:Int):rrIn p0 p1 p2=some (rrIn_v p0 p1 p2):=by
 simp only [rrIn,rrIn_v]
 cases decide (p1≤p0)<;>rfl
def K_rrIn (C:aj):Prop:=∀(p0:Int) (p1:Int) (p2:Int) (r:Bool),rrIn p0 p1 p2=some r→C 48 [.v (.i .i64 p0),.v (.i .i64 p1),.v (.i .i64 p2)] []=some (.v (.b r),[])
noncomputable def rrfieldMay (p0:ByteArray):Option Bool:=
 some (decide (1≤(p0.size:Int))&&decide ((p0.size:Int)≤12))
noncomputable def rrfieldMay_v (p0:ByteArray):Bool:=(decide (1≤(p0.size:Int))&&decide ((p0.size:Int)≤12))
theorem rrfieldMay_t (p0:ByteArray):rrfieldMay p0=some (rrfieldMay_v p0):=by
 simp only [rrfieldMay,rrfieldMay_v]
def K_rrfieldMay (C:aj):Prop:=∀(p0:ByteArray) (r:Bool),rrfieldMay p0=some r→C 93 [.v (.s p0)] []=some (.v (.b r),[])
noncomputable def rrsizeOf_v (p0:GValue):Int:=
 (IntKind.i64.wrap ((IntKind.i64.wrap ((p0.fPairs.length:Int)+(p0.fItems.length:Int)))+(p0.fScores.length:Int)))
noncomputable def rrsizeOf (p0:GValue):Option Int:=some (rrsizeOf_v p0)
theorem rrsizeOf_t (p0:GValue):rrsizeOf p0=some (rrsizeOf_v p0):=rfl
def K_rrsizeOf (C:aj):Prop:=∀(p0:GValue) (r:Int),rrsizeOf p0=some r→C 132 [.agg [.v (.i .i64 p0.fKind),.v (.s p0.fText),.v (.i .i64 p0.fCount),.v (.sl 2 (ah GPair.row p0.fPairs)),.v (.sl 1 (ah bY p0.fItems)),.v (.sl 2 (ah GScore.row p0.fScores))]] []=some (.v (.i .i64 r),[])
noncomputable def rrtextMay (p0:ByteArray):Option Bool:=
 some (decide ((p0.size:Int)≤20))
noncomputable def rrtextMay_v (p0:ByteArray):Bool:=decide ((p0.size:Int)≤20)
theorem rrtextMay_t (p0:ByteArray):rrtextMay p0=some (rrtextMay_v p0):=by
 simp only [rrtextMay,rrtextMay_v]
def K_rrtextMay (C:aj):Prop:=∀(p0:ByteArray) (r:Bool),rrtextMay p0=some r→C 95 [.v (.s p0)] []=some (.v (.b r),[])
noncomputable def rrcountMay (p0:Int):Option Bool:=
 some (decide ((-1099511627776)≤p0)&&decide (p0≤1099511627776))
noncomputable def rrcountMay_v (p0:Int):Bool:=(decide ((-1099511627776)≤p0)&&decide (p0≤1099511627776))
theorem rrcountMay_t (p0:Int):rrcountMay p0=some (rrcountMay_v p0):=by
 simp only [rrcountMay,rrcountMay_v]
def K_rrcountMay (C:aj):Prop:=∀(p0:Int) (r:Bool),rrcountMay p0=some r→C 96 [.v (.i .i64 p0)] []=some (.v (.b r),[])
noncomputable def rrscoreAhead (p0:GScore) (p1:GScore):Option Bool:=
 bif (p0.fN==p1.fN) then
  some (sltB p0.fMember p1.fMember)
 else
 some (decide (p0.fN<p1.fN))
noncomputable def rrscoreAhead_v (p0:GScore) (p1:GScore):Bool:=(bif (p0.fN==p1.fN) then sltB p0.fMember p1.fMember else decide (p0.fN<p1.fN))
theorem rrscoreAhead_t (p0:GScore) (p1:GScore):rrscoreAhead p0 p1=some (rrscoreAhead_v p0 p1):=by
 simp only [rrscoreAhead,rrscoreAhead_v]
 cases (p0.fN==p1.fN)<;>rfl
def K_rrscoreAhead (C:aj):Prop:=∀(p0:GScore) (p1:GScore) (r:Bool),rrscoreAhead p0 p1=some r→C 133 [.agg [.v (.s p0.fMember),.v (.i .i64 p0.fN)],.agg [.v (.s p1.fMember),.v (.i .i64 p1.fN)]] []=some (.v (.b r),[])
noncomputable def st_rrmemberAt_0 (p0:List GScore) (p1:ByteArray) (s:Int):Option (Int⊕(Int⊕Unit)):=
 match s with
 |p2=>
  bif decide (p2<(p0.length:Int)) then
   oB (idx p0 p2) fun x1=>
   bif cY x1.fMember p1 then
    some (.inr (.inl p2))
   else
   some (.inl (IntKind.i64.wrap (p2+1)))
  else
  some (.inr (.inr ()))
noncomputable def rrmemberAt (p0:List GScore) (p1:ByteArray):Option Int:=
 oB (cM (st_rrmemberAt_0 p0 p1) 0) fun
 | .inl x1=>
  some x1
 | .inr _=>
  some (-1)
def K_rrmemberAt (C:aj):Prop:=∀(p0:List GScore) (p1:ByteArray) (r:Int),rrmemberAt p0 p1=some r→C 134 [.v (.sl 2 (ah GScore.row p0)),.v (.s p1)] []=some (.v (.i .i64 r),[])
noncomputable def ck_rrValueFault_k4_v_c0 (p0:GValue):Bool:=
 bif (p0.fCount==0) then
  bif (p0.fKind==3) then
   bif (p0.fKind==6) then
    false
   else
   decide (0<(p0.fScores.length:Int))
  else
  bif decide (0<(p0.fPairs.length:Int)) then
   true
  else
  bif (p0.fKind==6) then
   false
  else
  decide (0<(p0.fScores.length:Int))
 else
 true
noncomputable def ck_rrValueFault_k4_v_c1 (p0:GValue):Bool:=
 bif (p0.fCount==0) then
  bif (p0.fKind==3) then
   bif (p0.fKind==6) then
    false
   else
   decide (0<(p0.fScores.length:Int))
  else
  bif decide (0<(p0.fPairs.length:Int)) then
   true
  else
  bif (p0.fKind==6) then
   false
  else
  decide (0<(p0.fScores.length:Int))
 else
 true
noncomputable def ck_rrValueFault_k4_v_c2 (p0:GValue):Bool:=
 bif cY p0.fText ByteArray.empty then
  bif (p0.fKind==2) then
   bif (p0.fKind==3) then
    bif (p0.fKind==6) then
     false
    else
    decide (0<(p0.fScores.length:Int))
   else
   bif decide (0<(p0.fPairs.length:Int)) then
    true
   else
   bif (p0.fKind==6) then
    false
   else
   decide (0<(p0.fScores.length:Int))
  else
  ck_rrValueFault_k4_v_c1 p0
 else
 true
noncomputable def ck_rrValueFault_k4_v (p0:GValue):Bool:=
 bif (p0.fKind==1) then
  bif (p0.fKind==2) then
   bif (p0.fKind==3) then
    bif (p0.fKind==6) then
     false
    else
    decide (0<(p0.fScores.length:Int))
   else
   bif decide (0<(p0.fPairs.length:Int)) then
    true
   else
   bif (p0.fKind==6) then
    false
   else
   decide (0<(p0.fScores.length:Int))
  else
  ck_rrValueFault_k4_v_c0 p0
 else
 ck_rrValueFault_k4_v_c2 p0
noncomputable def ck_rrValueFault_k6_v (p0:GValue):Bool:=
 bif decide (3≤p0.fKind) then
  bif decide (1≤(rrsizeOf_v p0)) then
   bif decide ((rrsizeOf_v p0)≤20) then
    (!(rrtextMay_v p0.fText))
   else
   true
  else
  true
 else
 (!(rrtextMay_v p0.fText))
noncomputable def st_rrValueFault_0 (p0:GValue) (s:Int):Option (Int⊕(Unit⊕Unit)):=
 match s with
 |p1=>
  bif decide (p1<(p0.fItems.length:Int)) then
   oB (idx p0.fItems p1) fun x1=>
   bif (rrtextMay_v x1) then
    some (.inl (IntKind.i64.wrap (p1+1)))
   else
   some (.inr (.inl ()))
  else
  some (.inr (.inr ()))
noncomputable def st_rrValueFault_2 (p0:GValue) (s:Int):Option (Int⊕(Unit⊕Unit)):=
 match s with
 |p1=>
  bif decide (p1<(p0.fPairs.length:Int)) then
   oB (idx p0.fPairs p1) fun x1=>
   bif (rrfieldMay_v x1.fField) then
    bif (rrtextMay_v x1.fText) then
     some (.inl (IntKind.i64.wrap (p1+1)))
    else
    some (.inr (.inl ()))
   else
   some (.inr (.inl ()))
  else
  some (.inr (.inr ()))
noncomputable def st_rrValueFault_4 (p0:GValue) (s:Int):Option (Int⊕(Unit⊕Unit)):=
 match s with
 |p1=>
  bif decide (p1<(p0.fScores.length:Int)) then
   oB (idx p0.fScores p1) fun x1=>
   bif (rrtextMay_v x1.fMember) then
    some (.inl (IntKind.i64.wrap (p1+1)))
   else
   some (.inr (.inl ()))
  else
  some (.inr (.inr ()))
noncomputable def st_rrValueFault_6 (p0:GValue) (s:Int):Option (Int⊕(Unit⊕Unit)):=
 match s with
 |p1=>
  bif decide (p1<(p0.fScores.length:Int)) then
   oB (idx p0.fScores p1) fun x1=>
   bif (rrcountMay_v x1.fN) then
    some (.inl (IntKind.i64.wrap (p1+1)))
   else
   some (.inr (.inl ()))
  else
  some (.inr (.inr ()))
noncomputable def st_rrValueFault_8 (p0:GValue) (s:Int):Option (Int⊕(Unit⊕Unit)):=
 match s with
 |p1=>
  bif decide (p1<(p0.fPairs.length:Int)) then
   oB (idx p0.fPairs (IntKind.i64.wrap (p1-1))) fun x1=>
   oB (idx p0.fPairs p1) fun x2=>
   bif sltB x1.fField x2.fField then
    some (.inl (IntKind.i64.wrap (p1+1)))
   else
   some (.inr (.inl ()))
  else
  some (.inr (.inr ()))
noncomputable def st_rrValueFault_10 (p0:GValue) (s:Int):Option (Int⊕(Unit⊕Unit)):=
 match s with
 |p1=>
  bif decide (p1<(p0.fItems.length:Int)) then
   bif (p0.fKind==5) then
    oB (idx p0.fItems (IntKind.i64.wrap (p1-1))) fun x1=>
    oB (idx p0.fItems p1) fun x2=>
    bif sltB x1 x2 then
     some (.inl (IntKind.i64.wrap (p1+1)))
    else
    some (.inr (.inl ()))
   else
   some (.inr (.inr ()))
  else
  some (.inr (.inr ()))
noncomputable def st_rrValueFault_12 (p0:GValue) (s:Int):Option (Int⊕(Unit⊕Unit)):=
 match s with
 |p1=>
  bif decide (p1<(p0.fScores.length:Int)) then
   oB (idx p0.fScores (IntKind.i64.wrap (p1-1))) fun x1=>
   oB (idx p0.fScores p1) fun x2=>
   bif (rrscoreAhead_v x1 x2) then
    bif rngB 0 p1 (p0.fScores.length:Int) then
     oB (rrmemberAt (dm p0.fScores 0 p1) x2.fMember) fun x3=>
     bif decide (0≤x3) then
      some (.inr (.inl ()))
     else
     some (.inl (IntKind.i64.wrap (p1+1)))
    else
    none
   else
   some (.inr (.inl ()))
  else
  some (.inr (.inr ()))
noncomputable def ck_rrValueFault_k4v2_v_c0 (p0:GValue) (p1:Bool):Bool:=
 bif decide (0<(p0.fPairs.length:Int)) then
  true
 else
 bif p1 then
  bif (p0.fKind==6) then
   false
  else
  decide (0<(p0.fScores.length:Int))
 else
 bif decide (0<(p0.fItems.length:Int)) then
  true
 else
 bif (p0.fKind==6) then
  false
 else
 decide (0<(p0.fScores.length:Int))
noncomputable def ck_rrValueFault_k4v2_v_c1 (p0:GValue) (p1:Bool):Bool:=
 bif decide (0<(p0.fPairs.length:Int)) then
  true
 else
 bif p1 then
  bif (p0.fKind==6) then
   false
  else
  decide (0<(p0.fScores.length:Int))
 else
 bif decide (0<(p0.fItems.length:Int)) then
  true
 else
 bif (p0.fKind==6) then
  false
 else
 decide (0<(p0.fScores.length:Int))
noncomputable def ck_rrValueFault_k4v2_v_c2 (p0:GValue) (p1:Bool):Bool:=
 bif (p0.fCount==0) then
  bif (p0.fKind==3) then
   bif p1 then
    bif (p0.fKind==6) then
     false
    else
    decide (0<(p0.fScores.length:Int))
   else
   bif decide (0<(p0.fItems.length:Int)) then
    true
   else
   bif (p0.fKind==6) then
    false
   else
   decide (0<(p0.fScores.length:Int))
  else
  ck_rrValueFault_k4v2_v_c1 p0 p1
 else
 true
noncomputable def ck_rrValueFault_k4v2_v_c3 (p0:GValue) (p1:Bool):Bool:=
 bif decide (0<(p0.fPairs.length:Int)) then
  true
 else
 bif p1 then
  bif (p0.fKind==6) then
   false
  else
  decide (0<(p0.fScores.length:Int))
 else
 bif decide (0<(p0.fItems.length:Int)) then
  true
 else
 bif (p0.fKind==6) then
  false
 else
 decide (0<(p0.fScores.length:Int))
noncomputable def ck_rrValueFault_k4v2_v_c4 (p0:GValue) (p1:Bool):Bool:=
 bif decide (0<(p0.fPairs.length:Int)) then
  true
 else
 bif p1 then
  bif (p0.fKind==6) then
   false
  else
  decide (0<(p0.fScores.length:Int))
 else
 bif decide (0<(p0.fItems.length:Int)) then
  true
 else
 bif (p0.fKind==6) then
  false
 else
 decide (0<(p0.fScores.length:Int))
noncomputable def ck_rrValueFault_k4v2_v_c5 (p0:GValue) (p1:Bool):Bool:=
 bif (p0.fCount==0) then
  bif (p0.fKind==3) then
   bif p1 then
    bif (p0.fKind==6) then
     false
    else
    decide (0<(p0.fScores.length:Int))
   else
   bif decide (0<(p0.fItems.length:Int)) then
    true
   else
   bif (p0.fKind==6) then
    false
   else
   decide (0<(p0.fScores.length:Int))
  else
  ck_rrValueFault_k4v2_v_c4 p0 p1
 else
 true
noncomputable def ck_rrValueFault_k4v2_v_c6 (p0:GValue) (p1:Bool):Bool:=
 bif cY p0.fText ByteArray.empty then
  bif (p0.fKind==2) then
   bif (p0.fKind==3) then
    bif p1 then
     bif (p0.fKind==6) then
      false
     else
     decide (0<(p0.fScores.length:Int))
    else
    bif decide (0<(p0.fItems.length:Int)) then
     true
    else
    bif (p0.fKind==6) then
     false
    else
    decide (0<(p0.fScores.length:Int))
   else
   ck_rrValueFault_k4v2_v_c3 p0 p1
  else
  ck_rrValueFault_k4v2_v_c5 p0 p1
 else
 true
noncomputable def ck_rrValueFault_k4v2_v (p0:GValue) (p1:Bool):Bool:=
 bif (p0.fKind==1) then
  bif (p0.fKind==2) then
   bif (p0.fKind==3) then
    bif p1 then
     bif (p0.fKind==6) then
      false
     else
     decide (0<(p0.fScores.length:Int))
    else
    bif decide (0<(p0.fItems.length:Int)) then
     true
    else
    bif (p0.fKind==6) then
     false
    else
    decide (0<(p0.fScores.length:Int))
   else
   ck_rrValueFault_k4v2_v_c0 p0 p1
  else
  ck_rrValueFault_k4v2_v_c2 p0 p1
 else
 ck_rrValueFault_k4v2_v_c6 p0 p1
noncomputable def rrValueFault_c0 (p0:GValue):Option Int:=
 oB (cM (st_rrValueFault_12 p0) 1) fun
 | .inl _=>
  some 10
 | .inr _=>
  some 0
noncomputable def rrValueFault_c1 (p0:GValue):Option Int:=
 oB (cM (st_rrValueFault_10 p0) 1) fun
 | .inl _=>
  some 10
 | .inr _=>
  rrValueFault_c0 p0
noncomputable def rrValueFault_c2 (p0:GValue):Option Int:=
 oB (cM (st_rrValueFault_8 p0) 1) fun
 | .inl _=>
  some 10
 | .inr _=>
  rrValueFault_c1 p0
noncomputable def rrValueFault_c3 (p0:GValue):Option Int:=
 bif (rrcountMay_v p0.fCount) then
  oB (cM (st_rrValueFault_6 p0) 0) fun
  | .inl _=>
   some 2
  | .inr _=>
   rrValueFault_c2 p0
 else
 some 2
noncomputable def rrValueFault_c4 (p0:GValue):Option Int:=
 oB (cM (st_rrValueFault_4 p0) 0) fun
 | .inl _=>
  some 1
 | .inr _=>
  rrValueFault_c3 p0
noncomputable def rrValueFault_c5 (p0:GValue):Option Int:=
 oB (cM (st_rrValueFault_2 p0) 0) fun
 | .inl _=>
  some 1
 | .inr _=>
  rrValueFault_c4 p0
noncomputable def rrValueFault_c6 (p0:GValue):Option Int:=
 oB (cM (st_rrValueFault_12 p0) 1) fun
 | .inl _=>
  some 10
 | .inr _=>
  some 0
noncomputable def rrValueFault_c7 (p0:GValue):Option Int:=
 oB (cM (st_rrValueFault_10 p0) 1) fun
 | .inl _=>
  some 10
 | .inr _=>
  rrValueFault_c6 p0
noncomputable def rrValueFault_c8 (p0:GValue):Option Int:=
 oB (cM (st_rrValueFault_8 p0) 1) fun
 | .inl _=>
  some 10
 | .inr _=>
  rrValueFault_c7 p0
noncomputable def rrValueFault_c9 (p0:GValue):Option Int:=
 bif (rrcountMay_v p0.fCount) then
  oB (cM (st_rrValueFault_6 p0) 0) fun
  | .inl _=>
   some 2
  | .inr _=>
   rrValueFault_c8 p0
 else
 some 2
noncomputable def rrValueFault_c10 (p0:GValue):Option Int:=
 oB (cM (st_rrValueFault_4 p0) 0) fun
 | .inl _=>
  some 1
 | .inr _=>
  rrValueFault_c9 p0
noncomputable def rrValueFault_c11 (p0:GValue):Option Int:=
 oB (cM (st_rrValueFault_2 p0) 0) fun
 | .inl _=>
  some 1
 | .inr _=>
  rrValueFault_c10 p0
noncomputable def rrValueFault_c12 (p0:GValue):Option Int:=
 bif (ck_rrValueFault_k4_v p0) then
  some 8
 else
 bif (ck_rrValueFault_k6_v p0) then
  some 1
 else
 oB (cM (st_rrValueFault_0 p0) 0) fun
 | .inl _=>
  some 1
 | .inr _=>
  rrValueFault_c5 p0
noncomputable def rrValueFault (p0:GValue):Option Int:=
 bif decide (1≤p0.fKind) then
  bif decide (p0.fKind≤6) then
   bif (p0.fKind==4) then
    rrValueFault_c12 p0
   else
   bif (ck_rrValueFault_k4v2_v p0 (p0.fKind==5)) then
    some 8
   else
   bif (ck_rrValueFault_k6_v p0) then
    some 1
   else
   oB (cM (st_rrValueFault_0 p0) 0) fun
   | .inl _=>
    some 1
   | .inr _=>
    rrValueFault_c11 p0
  else
  some 3
 else
 some 3
def K_rrValueFault (C:aj):Prop:=∀(p0:GValue) (r:Int),rrValueFault p0=some r→C 94 [.agg [.v (.i .i64 p0.fKind),.v (.s p0.fText),.v (.i .i64 p0.fCount),.v (.sl 2 (ah GPair.row p0.fPairs)),.v (.sl 1 (ah bY p0.fItems)),.v (.sl 2 (ah GScore.row p0.fScores))]] []=some (.v (.i .i64 r),[])
noncomputable def ck_rrStoreFault_k1_v (p0:GStore):Bool:=
 bif decide (0≤p0.fNow) then
  bif decide (p0.fNow≤1073741824) then
   decide (12<(p0.fEntries.length:Int))
  else
  true
 else
 true
noncomputable def ck_rrStoreFault_k7v2 (p0:GStore) (p1:Int) (p2:GEntry):Option Bool:=
 bif (rrfieldMay_v p2.fKey) then
  oB (rrValueFault p2.fValue) fun x1=>
  bif (x1==0) then
   bif decide (0<p1) then
    oB (idx p0.fEntries (IntKind.i64.wrap (p1-1))) fun x2=>
    some (!sltB x2.fKey p2.fKey)
   else
   some false
  else
  some true
 else
 some true
noncomputable def ck_rrStoreFault_k9v2_v (p0:GStore) (p1:Int) (p2:GEntry):Bool:=
 bif (p2.fUntil==0) then
  false
 else
 bif decide (0≤p2.fUntil) then
  bif decide (p2.fUntil≤1073741824) then
   decide (p2.fUntil≤p0.fNow)
  else
  true
 else
 true
noncomputable def st_rrStoreFault_0 (p0:GStore) (s:Int):Option (Int⊕(GEntry⊕Unit)):=
 match s with
 |p1=>
  bif decide (p1<(p0.fEntries.length:Int)) then
   oB (idx p0.fEntries p1) fun x1=>
   oB (ck_rrStoreFault_k7v2 p0 p1 x1) fun x2=>
   bif x2 then
    some (.inr (.inl x1))
   else
   bif (ck_rrStoreFault_k9v2_v p0 p1 x1) then
    some (.inr (.inl x1))
   else
   some (.inl (IntKind.i64.wrap (p1+1)))
  else
  some (.inr (.inr ()))
noncomputable def rrStoreFault (p0:GStore):Option Int:=
 bif (ck_rrStoreFault_k1_v p0) then
  some 13
 else
 oB (cM (st_rrStoreFault_0 p0) 0) fun
 | .inl x1=>
  some 13
 | .inr _=>
  some 0
def K_rrStoreFault (C:aj):Prop:=∀(p0:GStore) (r:Int),rrStoreFault p0=some r→C 73 [.agg [.v (.i .i64 p0.fNow),.v (.sl 8 (ah GEntry.row p0.fEntries))]] []=some (.v (.i .i64 r),[])
noncomputable def rrnumberMay (p0:Int):Option Bool:=
 some (decide (1≤p0)&&decide (p0≤1048576))
noncomputable def rrnumberMay_v (p0:Int):Bool:=(decide (1≤p0)&&decide (p0≤1048576))
theorem rrnumberMay_t (p0:Int):rrnumberMay p0=some (rrnumberMay_v p0):=by
 simp only [rrnumberMay,rrnumberMay_v]
def K_rrnumberMay (C:aj):Prop:=∀(p0:Int) (r:Bool),rrnumberMay p0=some r→C 51 [.v (.i .i64 p0)] []=some (.v (.b r),[])
noncomputable def st_rrReplyFault_0 (p0:GReply) (s:Int):Option (Int⊕(Unit⊕Unit)):=
 match s with
 |p1=>
  bif decide (p1<(p0.fList.length:Int)) then
   oB (idx p0.fList p1) fun x1=>
   bif (rrtextMay_v x1) then
    some (.inl (IntKind.i64.wrap (p1+1)))
   else
   some (.inr (.inl ()))
  else
  some (.inr (.inr ()))
noncomputable def rrReplyFault (p0:GReply):Option Int:=
 bif decide (0≤p0.fCode) then
  bif decide (p0.fCode≤13) then
   bif (rrtextMay_v p0.fText) then
    bif decide (20<(p0.fList.length:Int)) then
     some 1
    else
    oB (cM (st_rrReplyFault_0 p0) 0) fun
    | .inl _=>
     some 1
    | .inr _=>
     bif (rrcountMay_v p0.fN) then
      some 0
     else
     some 2
   else
   some 1
  else
  some 3
 else
 some 3
def K_rrReplyFault (C:aj):Prop:=∀(p0:GReply) (r:Int),rrReplyFault p0=some r→C 74 [.agg [.v (.i .i64 p0.fCode),.v (.s p0.fText),.v (.i .i64 p0.fN),.v (.sl 1 (ah bY p0.fList))]] []=some (.v (.i .i64 r),[])
noncomputable def ck_rrMachineFault_k1 (p0:GMachine):Option Bool:=
 oB (rrStoreFault p0.fStore) fun x1=>
 bif (x1==0) then
  bif decide (1≤p0.fNext) then
   bif decide (p0.fNext≤1048577) then
    some (decide (4<(p0.fClients.length:Int)))
   else
   some true
  else
  some true
 else
 some true
noncomputable def ck_rrMachineFault_k7v2_c0 (p0:GMachine) (p1:Int) (p2:GClient):Option Bool:=
 oB (idx p0.fClients (IntKind.i64.wrap (p1-1))) fun x1=>
 bif decide (p2.fId≤x1.fId) then
  some true
 else
 bif decide (0≤p2.fSeq) then
  bif decide (p2.fSeq≤1048576) then
   bif decide (0≤p2.fTime) then
    bif decide (p2.fTime≤p0.fStore.fNow) then
     oB (rrReplyFault p2.fReply) fun x2=>
     some (!(x2==0))
    else
    some true
   else
   some true
  else
  some true
 else
 some true
noncomputable def ck_rrMachineFault_k7v2_c1 (p0:GMachine) (p1:Int) (p2:GClient):Option Bool:=
 bif decide (p0.fNext≤p2.fId) then
  some true
 else
 bif decide (0<p1) then
  ck_rrMachineFault_k7v2_c0 p0 p1 p2
 else
 bif decide (0≤p2.fSeq) then
  bif decide (p2.fSeq≤1048576) then
   bif decide (0≤p2.fTime) then
    bif decide (p2.fTime≤p0.fStore.fNow) then
     oB (rrReplyFault p2.fReply) fun x1=>
     some (!(x1==0))
    else
    some true
   else
   some true
  else
  some true
 else
 some true
noncomputable def ck_rrMachineFault_k7v2 (p0:GMachine) (p1:Int) (p2:GClient):Option Bool:=
 bif (rrnumberMay_v p2.fId) then
  ck_rrMachineFault_k7v2_c1 p0 p1 p2
 else
 some true
noncomputable def st_rrMachineFault_0 (p0:GMachine) (s:Int):Option (Int⊕(GClient⊕Unit)):=
 match s with
 |p1=>
  bif decide (p1<(p0.fClients.length:Int)) then
   oB (idx p0.fClients p1) fun x1=>
   oB (ck_rrMachineFault_k7v2 p0 p1 x1) fun x2=>
   bif x2 then
    some (.inr (.inl x1))
   else
   some (.inl (IntKind.i64.wrap (p1+1)))
  else
  some (.inr (.inr ()))
noncomputable def rrMachineFault (p0:GMachine):Option Int:=
 oB (ck_rrMachineFault_k1 p0) fun x1=>
 bif x1 then
  some 13
 else
 oB (cM (st_rrMachineFault_0 p0) 0) fun
 | .inl x2=>
  some 13
 | .inr _=>
  some 0
def K_rrMachineFault (C:aj):Prop:=∀(p0:GMachine) (r:Int),rrMachineFault p0=some r→C 41 [.agg [.v (.i .i64 p0.fStore.fNow),.v (.sl 8 (ah GEntry.row p0.fStore.fEntries)),.v (.i .i64 p0.fNext),.v (.sl 7 (ah GClient.row p0.fClients))]] []=some (.v (.i .i64 r),[])
noncomputable def st_rrMachineOf_0 (p0:Int) (s:Int×Gscan×GMachine):Option ((Int×Gscan×GMachine)⊕(Gscan×GMachine)):=
 match s with
 |(p1,p2,p3)=>
  bif decide (p1<p0) then
   oB (rrscan_over p2) fun (x1,x2)=>
   bif x1 then
    some (.inr (x2,p3))
   else
   oB (rrscan_str x2) fun (x3,x4)=>
   oB (rrscan_valueNext x4) fun (x5,x6)=>
   oB (rrscan_long x6) fun (x7,x8)=>
   bif dh (p3.fStore.fEntries.length+1) 128 then
    some (.inl ((IntKind.i64.wrap (p1+1)),x8,(GMachine.mk (GStore.mk p3.fStore.fNow (p3.fStore.fEntries++ [(GEntry.mk x3 x5 x7)])) p3.fNext p3.fClients)))
   else
   none
  else
  some (.inr (p2,p3))
noncomputable def st_rrMachineOf_2_c0 (p0:Int) (p1:Int) (p2:Gscan) (p3:GMachine) (x1:Bool) (x2:Gscan) (x3:Int) (x4:Gscan):Option ((Int×Gscan×GMachine)⊕(Gscan×GMachine)):=
 oB (rrscan_long x4) fun (x5,x6)=>
 oB (rrscan_long x6) fun (x7,x8)=>
 oB (rrscan_next x8) fun (x9,x10)=>
 oB (rrscan_str x10) fun (x11,x12)=>
 oB (rrscan_long x12) fun (x13,x14)=>
 oB (rrscan_strs x14) fun (x15,x16)=>
 bif dh (p3.fClients.length+1) 80 then
  some (.inl ((IntKind.i64.wrap (p1+1)),x16,(GMachine.mk p3.fStore p3.fNext (p3.fClients++ [(GClient.mk x3 x5 x7 (GReply.mk x9 x11 x13 x15))]))))
 else
 none
noncomputable def st_rrMachineOf_2 (p0:Int) (s:Int×Gscan×GMachine):Option ((Int×Gscan×GMachine)⊕(Gscan×GMachine)):=
 match s with
 |(p1,p2,p3)=>
  bif decide (p1<p0) then
   oB (rrscan_over p2) fun (x1,x2)=>
   bif x1 then
    some (.inr (x2,p3))
   else
   oB (rrscan_long x2) fun (x3,x4)=>
   st_rrMachineOf_2_c0 p0 p1 p2 p3 x1 x2 x3 x4
  else
  some (.inr (p2,p3))
noncomputable def ck_rrMachineOf_q104 (p0:Int) (p1:Bool) (p2:Gscan) (p3:GMachine):Option Int:=
 bif p1 then
  oB (rrMachineFault p3) fun x1=>
  some x1
 else
 some p0
noncomputable def rrMachineOf_c0 (p0:List Int) (x1:Int) (x2:Gscan) (x3:Int) (x4:Gscan) (x5:Gscan) (x6:GMachine) (x7:Int) (x8:Gscan) (x9:Int) (x10:Gscan) (x11:Gscan) (x12:GMachine):Option (GMachine×Int):=
 oB (rrscan_end true x11) fun (x13,x14)=>
 oB (ck_rrMachineOf_q104 x13 (x13==0) x14 x12) fun x15=>
 bif (x15==0) then
  some (x12,0)
 else
 some ((GMachine.mk (GStore.mk 0 []) 0 []),x15)
noncomputable def rrMachineOf_c1 (p0:List Int) (x1:Int) (x2:Gscan) (x3:Int) (x4:Gscan) (x5:Gscan) (x6:GMachine):Option (GMachine×Int):=
 oB (rrscan_long x5) fun (x7,x8)=>
 oB (rrscan_next x8) fun (x9,x10)=>
 oB (cM (st_rrMachineOf_2 x9) (0,x10,(GMachine.mk x6.fStore x7 x6.fClients))) fun (x11,x12)=>
 rrMachineOf_c0 p0 x1 x2 x3 x4 x5 x6 x7 x8 x9 x10 x11 x12
noncomputable def rrMachineOf (p0:List Int):Option (GMachine×Int):=
 bif decide (20000<(p0.length:Int)) then
  some ((GMachine.mk (GStore.mk 0 []) 0 []),1)
 else
 oB (rrscan_long (Gscan.mk p0 0)) fun (x1,x2)=>
 oB (rrscan_next x2) fun (x3,x4)=>
 oB (cM (st_rrMachineOf_0 x3) (0,x4,(GMachine.mk (GStore.mk x1 []) 0 []))) fun (x5,x6)=>
 rrMachineOf_c1 p0 x1 x2 x3 x4 x5 x6
def K_rrMachineOf (C:aj):Prop:=∀(p0:List Int) (r:GMachine×Int),rrMachineOf p0=some r→C 9 [.v (.sl 1 (ah cE p0))] []=some (.tup [.agg [.v (.i .i64 r.1.fStore.fNow),.v (.sl 8 (ah GEntry.row r.1.fStore.fEntries)),.v (.i .i64 r.1.fNext),.v (.sl 7 (ah GClient.row r.1.fClients))],.v (.i .i64 r.2)],[])
noncomputable def st_rlsameTexts_0 (p0:List ByteArray) (p1:List ByteArray) (s:Int):Option (Int⊕(Unit⊕Unit)):=
 match s with
 |p2=>
  bif decide (p2<(p0.length:Int)) then
   oB (idx p0 p2) fun x1=>
   oB (idx p1 p2) fun x2=>
   bif cY x1 x2 then
    some (.inl (IntKind.i64.wrap (p2+1)))
   else
   some (.inr (.inl ()))
  else
  some (.inr (.inr ()))
noncomputable def rlsameTexts (p0:List ByteArray) (p1:List ByteArray):Option Bool:=
 bif ((p0.length:Int)==(p1.length:Int)) then
  oB (cM (st_rlsameTexts_0 p0 p1) 0) fun
  | .inl _=>
   some false
  | .inr _=>
   some true
 else
 some false
def K_rlsameTexts (C:aj):Prop:=∀(p0:List ByteArray) (p1:List ByteArray) (r:Bool),rlsameTexts p0 p1=some r→C 76 [.v (.sl 1 (ah bY p0)),.v (.sl 1 (ah bY p1))] []=some (.v (.b r),[])
noncomputable def ck_rlsameValue_k1 (p0:GValue) (p1:GValue):Option Bool:=
 bif (p0.fKind==p1.fKind) then
  bif cY p0.fText p1.fText then
   bif (p0.fCount==p1.fCount) then
    bif ((p0.fPairs.length:Int)==(p1.fPairs.length:Int)) then
     bif ((p0.fScores.length:Int)==(p1.fScores.length:Int)) then
      oB (rlsameTexts p0.fItems p1.fItems) fun x1=>
      some (!x1)
     else
     some true
    else
    some true
   else
   some true
  else
  some true
 else
 some true
noncomputable def st_rlsameValue_0 (p0:GValue) (p1:GValue) (s:Int):Option (Int⊕(Unit⊕Unit)):=
 match s with
 |p2=>
  bif decide (p2<(p0.fPairs.length:Int)) then
   oB (idx p0.fPairs p2) fun x1=>
   oB (idx p1.fPairs p2) fun x2=>
   bif cY x1.fField x2.fField then
    bif cY x1.fText x2.fText then
     some (.inl (IntKind.i64.wrap (p2+1)))
    else
    some (.inr (.inl ()))
   else
   some (.inr (.inl ()))
  else
  some (.inr (.inr ()))
noncomputable def st_rlsameValue_2 (p0:GValue) (p1:GValue) (s:Int):Option (Int⊕(Unit⊕Unit)):=
 match s with
 |p2=>
  bif decide (p2<(p0.fScores.length:Int)) then
   oB (idx p0.fScores p2) fun x1=>
   oB (idx p1.fScores p2) fun x2=>
   bif cY x1.fMember x2.fMember then
    bif (x1.fN==x2.fN) then
     some (.inl (IntKind.i64.wrap (p2+1)))
    else
    some (.inr (.inl ()))
   else
   some (.inr (.inl ()))
  else
  some (.inr (.inr ()))
noncomputable def rlsameValue_c0 (p0:GValue) (p1:GValue) (x1:Bool):Option Bool:=
 oB (cM (st_rlsameValue_2 p0 p1) 0) fun
 | .inl _=>
  some false
 | .inr _=>
  some true
noncomputable def rlsameValue (p0:GValue) (p1:GValue):Option Bool:=
 oB (ck_rlsameValue_k1 p0 p1) fun x1=>
 bif x1 then
  some false
 else
 oB (cM (st_rlsameValue_0 p0 p1) 0) fun
 | .inl _=>
  some false
 | .inr _=>
  rlsameValue_c0 p0 p1 x1
def K_rlsameValue (C:aj):Prop:=∀(p0:GValue) (p1:GValue) (r:Bool),rlsameValue p0 p1=some r→C 75 [.agg [.v (.i .i64 p0.fKind),.v (.s p0.fText),.v (.i .i64 p0.fCount),.v (.sl 2 (ah GPair.row p0.fPairs)),.v (.sl 1 (ah bY p0.fItems)),.v (.sl 2 (ah GScore.row p0.fScores))],.agg [.v (.i .i64 p1.fKind),.v (.s p1.fText),.v (.i .i64 p1.fCount),.v (.sl 2 (ah GPair.row p1.fPairs)),.v (.sl 1 (ah bY p1.fItems)),.v (.sl 2 (ah GScore.row p1.fScores))]] []=some (.v (.b r),[])
noncomputable def ck_rlsameStore_k8v2 (p0:GStore) (p1:GStore) (p2:Int) (p3:GEntry) (p4:GEntry):Option Bool:=
 bif cY p3.fKey p4.fKey then
  bif (p3.fUntil==p4.fUntil) then
   oB (rlsameValue p3.fValue p4.fValue) fun x1=>
   some (!x1)
  else
  some true
 else
 some true
noncomputable def st_rlsameStore_0 (p0:GStore) (p1:GStore) (s:Int):Option (Int⊕((GEntry×GEntry)⊕Unit)):=
 match s with
 |p2=>
  bif decide (p2<(p0.fEntries.length:Int)) then
   oB (idx p0.fEntries p2) fun x1=>
   oB (idx p1.fEntries p2) fun x2=>
   oB (ck_rlsameStore_k8v2 p0 p1 p2 x1 x2) fun x3=>
   bif x3 then
    some (.inr (.inl (x1,x2)))
   else
   some (.inl (IntKind.i64.wrap (p2+1)))
  else
  some (.inr (.inr ()))
noncomputable def rlsameStore (p0:GStore) (p1:GStore):Option Bool:=
 bif (p0.fNow==p1.fNow) then
  bif ((p0.fEntries.length:Int)==(p1.fEntries.length:Int)) then
   oB (cM (st_rlsameStore_0 p0 p1) 0) fun
   | .inl (x1,x2)=>
    some false
   | .inr _=>
    some true
  else
  some false
 else
 some false
def K_rlsameStore (C:aj):Prop:=∀(p0:GStore) (p1:GStore) (r:Bool),rlsameStore p0 p1=some r→C 42 [.agg [.v (.i .i64 p0.fNow),.v (.sl 8 (ah GEntry.row p0.fEntries))],.agg [.v (.i .i64 p1.fNow),.v (.sl 8 (ah GEntry.row p1.fEntries))]] []=some (.v (.b r),[])
noncomputable def ck_rlsameReply_k1 (p0:GReply) (p1:GReply):Option Bool:=
 bif (p0.fCode==p1.fCode) then
  bif cY p0.fText p1.fText then
   bif (p0.fN==p1.fN) then
    oB (rlsameTexts p0.fList p1.fList) fun x1=>
    some x1
   else
   some false
  else
  some false
 else
 some false
noncomputable def rlsameReply (p0:GReply) (p1:GReply):Option Bool:=
 oB (ck_rlsameReply_k1 p0 p1) fun x1=>
 some x1
def K_rlsameReply (C:aj):Prop:=∀(p0:GReply) (p1:GReply) (r:Bool),rlsameReply p0 p1=some r→C 43 [.agg [.v (.i .i64 p0.fCode),.v (.s p0.fText),.v (.i .i64 p0.fN),.v (.sl 1 (ah bY p0.fList))],.agg [.v (.i .i64 p1.fCode),.v (.s p1.fText),.v (.i .i64 p1.fN),.v (.sl 1 (ah bY p1.fList))]] []=some (.v (.b r),[])
noncomputable def ck_rlsameMachine_k1 (p0:GMachine) (p1:GMachine):Option Bool:=
 bif (p0.fNext==p1.fNext) then
  oB (rlsameStore p0.fStore p1.fStore) fun x1=>
  bif x1 then
   some (!((p0.fClients.length:Int)==(p1.fClients.length:Int)))
  else
  some true
 else
 some true
noncomputable def ck_rlsameMachine_k8v2 (p0:GMachine) (p1:GMachine) (p2:Int) (p3:GClient) (p4:GClient):Option Bool:=
 bif (p3.fId==p4.fId) then
  bif (p3.fSeq==p4.fSeq) then
   bif (p3.fTime==p4.fTime) then
    oB (rlsameReply p3.fReply p4.fReply) fun x1=>
    some (!x1)
   else
   some true
  else
  some true
 else
 some true
noncomputable def st_rlsameMachine_0 (p0:GMachine) (p1:GMachine) (s:Int):Option (Int⊕((GClient×GClient)⊕Unit)):=
 match s with
 |p2=>
  bif decide (p2<(p0.fClients.length:Int)) then
   oB (idx p0.fClients p2) fun x1=>
   oB (idx p1.fClients p2) fun x2=>
   oB (ck_rlsameMachine_k8v2 p0 p1 p2 x1 x2) fun x3=>
   bif x3 then
    some (.inr (.inl (x1,x2)))
   else
   some (.inl (IntKind.i64.wrap (p2+1)))
  else
  some (.inr (.inr ()))
noncomputable def rlsameMachine (p0:GMachine) (p1:GMachine):Option Bool:=
 oB (ck_rlsameMachine_k1 p0 p1) fun x1=>
 bif x1 then
  some false
 else
 oB (cM (st_rlsameMachine_0 p0 p1) 0) fun
 | .inl (x2,x3)=>
  some false
 | .inr _=>
  some true
def K_rlsameMachine (C:aj):Prop:=∀(p0:GMachine) (p1:GMachine) (r:Bool),rlsameMachine p0 p1=some r→C 10 [.agg [.v (.i .i64 p0.fStore.fNow),.v (.sl 8 (ah GEntry.row p0.fStore.fEntries)),.v (.i .i64 p0.fNext),.v (.sl 7 (ah GClient.row p0.fClients))],.agg [.v (.i .i64 p1.fStore.fNow),.v (.sl 8 (ah GEntry.row p1.fStore.fEntries)),.v (.i .i64 p1.fNext),.v (.sl 7 (ah GClient.row p1.fClients))]] []=some (.v (.b r),[])
noncomputable def rlWireDecodes (p0:List Int):Option Bool:=
 oB (rloctets_z p0) fun x1=>
 oB (wire_Decode x1) fun (x2,x3)=>
 oB (rrMachineOf p0) fun (x4,x5)=>
 bif (x3==x5) then
  oB (rlsameMachine x2 x4) fun x6=>
  some x6
 else
 some false
end Go.Proofs.Ytgcglmoogaldbaa
