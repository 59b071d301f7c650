/- What the functions that the law TapeRests reaches compute, as plain functions; no condition. -/
import Derived.Test.YtgcglmoogaldbaaWTy
set_option linter.unusedSimpArgs false
set_option linter.unusedVariables false
set_option linter.constructorNameAsVariable false
set_option linter.unnecessarySimpa false
namespace Go.Proofs.Ytgcglmoogaldbaa
open Go Go.Mx Go.Proofs
noncomputable def st_rrLogCopy_z_0 (p0:GLog) (s:Int×GLog):Option ((Int×GLog)⊕GLog):=
 match s with
 |(p1,p2)=>
  bif decide (p1<(p0.fItems.length:Int)) then
   oB (idx p0.fItems p1) fun x1=>
   bif dh (p2.fItems.length+1) 104 then
    some (.inl ((IntKind.i64.wrap (p1+1)),(GLog.mk p2.fBase p2.fBaseTerm (p2.fItems++ [x1]))))
   else
   none
  else
  some (.inr p2)
noncomputable def rrLogCopy_z (p0:GLog):Option GLog:=
 oB (cM (st_rrLogCopy_z_0 p0) (0,(GLog.mk p0.fBase p0.fBaseTerm []))) fun x1=>
 some x1
def K_rrLogCopy_z (C:aj):Prop:=∀(p0:GLog) (r:GLog),rrLogCopy_z p0=some r→C 15 [.agg [.v (.i .i64 p0.fBase),.v (.i .i64 p0.fBaseTerm),.v (.sl 10 (ah GItem.row p0.fItems))]] []=some (.agg [.v (.i .i64 r.fBase),.v (.i .i64 r.fBaseTerm),.v (.sl 10 (ah GItem.row r.fItems))],[])
noncomputable def st_rrValueCopy_0 (p0:GValue) (s:Int×GValue):Option ((Int×GValue)⊕GValue):=
 match s with
 |(p1,p2)=>
  bif decide (p1<(p0.fPairs.length:Int)) then
   oB (idx p0.fPairs p1) fun x1=>
   bif dh (p2.fPairs.length+1) 32 then
    some (.inl ((IntKind.i64.wrap (p1+1)),(GValue.mk p2.fKind p2.fText p2.fCount (p2.fPairs++ [x1]) p2.fItems p2.fScores)))
   else
   none
  else
  some (.inr p2)
noncomputable def st_rrValueCopy_2 (p0:GValue) (s:Int×GValue):Option ((Int×GValue)⊕GValue):=
 match s with
 |(p1,p2)=>
  bif decide (p1<(p0.fItems.length:Int)) then
   oB (idx p0.fItems p1) fun x1=>
   bif dh (p2.fItems.length+1) 16 then
    some (.inl ((IntKind.i64.wrap (p1+1)),(GValue.mk p2.fKind p2.fText p2.fCount p2.fPairs (p2.fItems++ [x1]) p2.fScores)))
   else
   none
  else
  some (.inr p2)
noncomputable def st_rrValueCopy_4 (p0:GValue) (s:Int×GValue):Option ((Int×GValue)⊕GValue):=
 match s with
 |(p1,p2)=>
  bif decide (p1<(p0.fScores.length:Int)) then
   oB (idx p0.fScores p1) fun x1=>
   bif dh (p2.fScores.length+1) 24 then
    some (.inl ((IntKind.i64.wrap (p1+1)),(GValue.mk p2.fKind p2.fText p2.fCount p2.fPairs p2.fItems (p2.fScores++ [x1]))))
   else
   none
  else
  some (.inr p2)
noncomputable def rrValueCopy_c0 (p0:GValue) (x1:GValue):Option GValue:=
 oB (cM (st_rrValueCopy_2 p0) (0,x1)) fun x2=>
 oB (cM (st_rrValueCopy_4 p0) (0,x2)) fun x3=>
 some x3
noncomputable def rrValueCopy (p0:GValue):Option GValue:=
 oB (cM (st_rrValueCopy_0 p0) (0,(GValue.mk p0.fKind p0.fText p0.fCount [] [] []))) fun x1=>
 rrValueCopy_c0 p0 x1
def K_rrValueCopy (C:aj):Prop:=∀(p0:GValue) (r:GValue),rrValueCopy p0=some r→C 102 [.agg [.v (.i .i64 p0.fKind),.v (.s p0.fText),.v (.i .i64 p0.fCount),.v (.sl 2 (ah GPair.row p0.fPairs)),.v (.sl 1 (ah bY p0.fItems)),.v (.sl 2 (ah GScore.row p0.fScores))]] []=some (.agg [.v (.i .i64 r.fKind),.v (.s r.fText),.v (.i .i64 r.fCount),.own 2 (ah GPair.row r.fPairs),.own 1 (ah bY r.fItems),.own 2 (ah GScore.row r.fScores)],[])
noncomputable def st_rrStoreCopy_0 (p0:GStore) (s:Int×GStore):Option ((Int×GStore)⊕GStore):=
 match s with
 |(p1,p2)=>
  bif decide (p1<(p0.fEntries.length:Int)) then
   oB (idx p0.fEntries p1) fun x1=>
   oB (rrValueCopy x1.fValue) fun x2=>
   bif dh (p2.fEntries.length+1) 128 then
    some (.inl ((IntKind.i64.wrap (p1+1)),(GStore.mk p2.fNow (p2.fEntries++ [(GEntry.mk x1.fKey x2 x1.fUntil)]))))
   else
   none
  else
  some (.inr p2)
noncomputable def rrStoreCopy (p0:GStore):Option GStore:=
 oB (cM (st_rrStoreCopy_0 p0) (0,(GStore.mk p0.fNow []))) fun x1=>
 some x1
def K_rrStoreCopy (C:aj):Prop:=∀(p0:GStore) (r:GStore),rrStoreCopy p0=some r→C 81 [.agg [.v (.i .i64 p0.fNow),.v (.sl 8 (ah GEntry.row p0.fEntries))]] []=some (.agg [.v (.i .i64 r.fNow),.own 8 (ah GEntry.row r.fEntries)],[])
noncomputable def st_rrreplyCopy_0 (p0:GReply) (s:Int×GReply):Option ((Int×GReply)⊕GReply):=
 match s with
 |(p1,p2)=>
  bif decide (p1<(p0.fList.length:Int)) then
   oB (idx p0.fList p1) fun x1=>
   bif dh (p2.fList.length+1) 16 then
    some (.inl ((IntKind.i64.wrap (p1+1)),(GReply.mk p2.fCode p2.fText p2.fN (p2.fList++ [x1]))))
   else
   none
  else
  some (.inr p2)
noncomputable def rrreplyCopy (p0:GReply):Option GReply:=
 oB (cM (st_rrreplyCopy_0 p0) (0,(GReply.mk p0.fCode p0.fText p0.fN []))) fun x1=>
 some x1
def K_rrreplyCopy (C:aj):Prop:=∀(p0:GReply) (r:GReply),rrreplyCopy p0=some r→C 82 [.agg [.v (.i .i64 p0.fCode),.v (.s p0.fText),.v (.i .i64 p0.fN),.v (.sl 1 (ah bY p0.fList))]] []=some (.agg [.v (.i .i64 r.fCode),.v (.s r.fText),.v (.i .i64 r.fN),.own 1 (ah bY r.fList)],[])
noncomputable def st_rrMachineCopy_z_0 (p0:GMachine) (s:Int×GMachine):Option ((Int×GMachine)⊕GMachine):=
 match s with
 |(p1,p2)=>
  bif decide (p1<(p0.fClients.length:Int)) then
   oB (idx p0.fClients p1) fun x1=>
   oB (rrreplyCopy x1.fReply) fun x2=>
   bif dh (p2.fClients.length+1) 80 then
    some (.inl ((IntKind.i64.wrap (p1+1)),(GMachine.mk p2.fStore p2.fNext (p2.fClients++ [(GClient.mk x1.fId x1.fSeq x1.fTime x2)]))))
   else
   none
  else
  some (.inr p2)
noncomputable def rrMachineCopy_z (p0:GMachine):Option GMachine:=
 oB (rrStoreCopy p0.fStore) fun x1=>
 oB (cM (st_rrMachineCopy_z_0 p0) (0,(GMachine.mk x1 p0.fNext []))) fun x2=>
 some x2
def K_rrMachineCopy_z (C:aj):Prop:=∀(p0:GMachine) (r:GMachine),rrMachineCopy_z p0=some r→C 55 [.agg [.v (.i .i64 p0.fStore.fNow),.v (.sl 8 (ah GEntry.row p0.fStore.fEntries)),.v (.i .i64 p0.fNext),.v (.sl 7 (ah GClient.row p0.fClients))]] []=some (.agg [.v (.i .i64 r.fStore.fNow),.v (.sl 8 (ah GEntry.row r.fStore.fEntries)),.v (.i .i64 r.fNext),.v (.sl 7 (ah GClient.row r.fClients))],[])
noncomputable def rlsnaps_z (p0:GSnap):Option GSnap:=
 oB (rrMachineCopy_z p0.fMachine) fun x1=>
 some (GSnap.mk p0.fIndex p0.fTerm x1)
def K_rlsnaps_z (C:aj):Prop:=∀(p0:GSnap) (r:GSnap),rlsnaps_z p0=some r→C 16 [.agg [.v (.i .i64 p0.fIndex),.v (.i .i64 p0.fTerm),.v (.i .i64 p0.fMachine.fStore.fNow),.v (.sl 8 (ah GEntry.row p0.fMachine.fStore.fEntries)),.v (.i .i64 p0.fMachine.fNext),.v (.sl 7 (ah GClient.row p0.fMachine.fClients))]] []=some (.agg [.v (.i .i64 r.fIndex),.v (.i .i64 r.fTerm),.v (.i .i64 r.fMachine.fStore.fNow),.v (.sl 8 (ah GEntry.row r.fMachine.fStore.fEntries)),.v (.i .i64 r.fMachine.fNext),.v (.sl 7 (ah GClient.row r.fMachine.fClients))],[])
noncomputable def client_number (p0:Int):Option Bool:=
 bif decide (1≤p0) then
  some (decide (p0≤1048576))
 else
 some false
noncomputable def client_number_v (p0:Int):Bool:=(decide (1≤p0)&&decide (p0≤1048576))
theorem client_number_t (p0:Int):client_number p0=some (client_number_v p0):=by
 simp only [client_number,client_number_v]
 cases decide (1≤p0)<;>rfl
def K_client_number (C:aj):Prop:=∀(p0:Int) (r:Bool),client_number p0=some r→C 97 [.v (.i .i64 p0)] []=some (.v (.b r),[])
noncomputable def value_field (p0:ByteArray):Option Bool:=
 bif decide (1≤(p0.size:Int)) then
  some (decide ((p0.size:Int)≤12))
 else
 some false
noncomputable def value_field_v (p0:ByteArray):Bool:=(decide (1≤(p0.size:Int))&&decide ((p0.size:Int)≤12))
theorem value_field_t (p0:ByteArray):value_field p0=some (value_field_v p0):=by
 simp only [value_field,value_field_v]
 cases decide (1≤(p0.size:Int))<;>rfl
def K_value_field (C:aj):Prop:=∀(p0:ByteArray) (r:Bool),value_field p0=some r→C 119 [.v (.s p0)] []=some (.v (.b r),[])
noncomputable def value_text (p0:ByteArray):Option Bool:=
 some (decide ((p0.size:Int)≤20))
noncomputable def value_text_v (p0:ByteArray):Bool:=decide ((p0.size:Int)≤20)
theorem value_text_t (p0:ByteArray):value_text p0=some (value_text_v p0):=by
 simp only [value_text,value_text_v]
def K_value_text (C:aj):Prop:=∀(p0:ByteArray) (r:Bool),value_text p0=some r→C 115 [.v (.s p0)] []=some (.v (.b r),[])
noncomputable def value_count (p0:Int):Option Bool:=
 bif decide ((-1099511627776)≤p0) then
  some (decide (p0≤1099511627776))
 else
 some false
noncomputable def value_count_v (p0:Int):Bool:=(decide ((-1099511627776)≤p0)&&decide (p0≤1099511627776))
theorem value_count_t (p0:Int):value_count p0=some (value_count_v p0):=by
 simp only [value_count,value_count_v]
 cases decide ((-1099511627776)≤p0)<;>rfl
def K_value_count (C:aj):Prop:=∀(p0:Int) (r:Bool),value_count p0=some r→C 122 [.v (.i .i64 p0)] []=some (.v (.b r),[])
noncomputable def ck_vaCCommand_q59_v (p0:GCommand) (p1:Bool) (p2:Int) (p3:ByteArray):GCommand:=
 bif p1 then
  (GCommand.mk p2 ByteArray.empty ByteArray.empty ByteArray.empty 0)
 else
 (GCommand.mk p2 p3 ByteArray.empty ByteArray.empty 0)
noncomputable def ck_vaCCommand_q51_v (p0:GCommand) (p1:Int) (p2:Bool) (p3:ByteArray):GCommand:=
 bif p2 then
  (GCommand.mk p1 p3 ByteArray.empty p0.fText p0.fN)
 else
 (ck_vaCCommand_q59_v p0 (p1==22) p1 p3)
noncomputable def ck_vaCCommand_q37_v (p0:GCommand) (p1:Int) (p2:Bool) (p3:ByteArray):GCommand:=
 bif p2 then
  (GCommand.mk p1 p3 p0.fField p0.fText 0)
 else
 bif (p1==5) then
  (GCommand.mk p1 p3 p0.fField ByteArray.empty 0)
 else
 bif (p1==6) then
  (GCommand.mk p1 p3 p0.fField ByteArray.empty 0)
 else
 (ck_vaCCommand_q51_v p0 p1 (p1==14) p3)
noncomputable def ck_vaCCommand_w0_v_c0 (p0:GCommand) (p1:Int) (p2:ByteArray):GCommand:=
 bif (p1==11) then
  (GCommand.mk p1 p2 ByteArray.empty p0.fText 0)
 else
 bif (p1==12) then
  (GCommand.mk p1 p2 ByteArray.empty p0.fText 0)
 else
 bif (p1==13) then
  (GCommand.mk p1 p2 ByteArray.empty p0.fText 0)
 else
 bif (p1==15) then
  (GCommand.mk p1 p2 ByteArray.empty p0.fText 0)
 else
 bif (p1==16) then
  (GCommand.mk p1 p2 ByteArray.empty p0.fText 0)
 else
 bif (p1==3) then
  (GCommand.mk p1 p2 ByteArray.empty ByteArray.empty p0.fN)
 else
 bif (p1==20) then
  (GCommand.mk p1 p2 ByteArray.empty ByteArray.empty p0.fN)
 else
 (ck_vaCCommand_q37_v p0 p1 (p1==4) p2)
noncomputable def ck_vaCCommand_w0_v (p0:GCommand) (p1:Int) (p2:ByteArray):GCommand:=
 bif (p1==1) then
  (GCommand.mk p1 p2 ByteArray.empty p0.fText 0)
 else
 bif (p1==7) then
  (GCommand.mk p1 p2 ByteArray.empty p0.fText 0)
 else
 bif (p1==8) then
  (GCommand.mk p1 p2 ByteArray.empty p0.fText 0)
 else
 ck_vaCCommand_w0_v_c0 p0 p1 p2
noncomputable def ck_vaCCommand_k28_v_c0 (p0:GCommand) (p1:GCommand):Bool:=
 bif (value_field_v p0.fKey) then
  bif decide (4≤p0.fKind) then
   bif decide (p0.fKind≤6) then
    bif (value_field_v p0.fField) then
     (!(value_text_v p0.fText))
    else
    true
   else
   (!(value_text_v p0.fText))
  else
  (!(value_text_v p0.fText))
 else
 true
noncomputable def ck_vaCCommand_k28_v (p0:GCommand) (p1:GCommand):Bool:=
 bif (p0.fKind==22) then
  bif decide (4≤p0.fKind) then
   bif decide (p0.fKind≤6) then
    bif (value_field_v p0.fField) then
     (!(value_text_v p0.fText))
    else
    true
   else
   (!(value_text_v p0.fText))
  else
  (!(value_text_v p0.fText))
 else
 ck_vaCCommand_k28_v_c0 p0 p1
noncomputable def vaCCommand_v_c0 (p0:GCommand):Int:=
 bif (p0.fKind==(ck_vaCCommand_w0_v p0 p0.fKind p0.fKey).fKind) then
  bif cY p0.fKey ((ck_vaCCommand_w0_v p0 p0.fKind p0.fKey).fKey) then
   bif cY p0.fField ((ck_vaCCommand_w0_v p0 p0.fKind p0.fKey).fField) then
    bif cY p0.fText ((ck_vaCCommand_w0_v p0 p0.fKind p0.fKey).fText) then
     bif (p0.fN==(ck_vaCCommand_w0_v p0 p0.fKind p0.fKey).fN) then
      bif (ck_vaCCommand_k28_v p0 (ck_vaCCommand_w0_v p0 p0.fKind p0.fKey)) then
       1
      else
      bif (value_count_v p0.fN) then
       0
      else
      2
     else
     8
    else
    8
   else
   8
  else
  8
 else
 8
noncomputable def vaCCommand_v (p0:GCommand):Int:=
 bif decide (p0.fKind<1) then
  3
 else
 bif decide (22<p0.fKind) then
  3
 else
 vaCCommand_v_c0 p0
noncomputable def vaCCommand (p0:GCommand):Option Int:=some (vaCCommand_v p0)
theorem vaCCommand_t (p0:GCommand):vaCCommand p0=some (vaCCommand_v p0):=rfl
def K_vaCCommand (C:aj):Prop:=∀(p0:GCommand) (r:Int),vaCCommand p0=some r→C 98 [.agg [.v (.i .i64 p0.fKind),.v (.s p0.fKey),.v (.s p0.fField),.v (.s p0.fText),.v (.i .i64 p0.fN)]] []=some (.v (.i .i64 r),[])
noncomputable def clCCall_v_c0 (p0:GCall):Int:=
 bif (p0.fSeq==0) then
  bif (p0.fCommand.fKind==0) then
   bif cY p0.fCommand.fKey ByteArray.empty then
    bif cY p0.fCommand.fField ByteArray.empty then
     bif cY p0.fCommand.fText ByteArray.empty then
      bif (p0.fCommand.fN==0) then
       0
      else
      8
     else
     8
    else
    8
   else
   8
  else
  8
 else
 8
noncomputable def clCCall_v (p0:GCall):Int:=
 bif (p0.fClient==0) then
  clCCall_v_c0 p0
 else
 bif (client_number_v p0.fClient) then
  bif (client_number_v p0.fSeq) then
   (vaCCommand_v p0.fCommand)
  else
  2
 else
 2
noncomputable def clCCall (p0:GCall):Option Int:=some (clCCall_v p0)
theorem clCCall_t (p0:GCall):clCCall p0=some (clCCall_v p0):=rfl
def K_clCCall (C:aj):Prop:=∀(p0:GCall) (r:Int),clCCall p0=some r→C 77 [.agg [.v (.i .i64 p0.fClient),.v (.i .i64 p0.fSeq),.v (.i .i64 p0.fCommand.fKind),.v (.s p0.fCommand.fKey),.v (.s p0.fCommand.fField),.v (.s p0.fCommand.fText),.v (.i .i64 p0.fCommand.fN)]] []=some (.v (.i .i64 r),[])
noncomputable def ck_wire_CheckItem_k1_v (p0:GItem):Bool:=
 bif decide (p0.fTerm<1) then
  true
 else
 bif decide (1048576<p0.fTerm) then
  true
 else
 bif decide (p0.fTime<0) then
  true
 else
 decide (1073741824<p0.fTime)
noncomputable def wire_CheckItem_v_c0 (p0:GItem):Int:=
 bif (p0.fCall.fClient==0) then
  bif (p0.fCall.fSeq==0) then
   bif (p0.fCall.fCommand.fKind==0) then
    bif cY p0.fCall.fCommand.fKey ByteArray.empty then
     bif cY p0.fCall.fCommand.fField ByteArray.empty then
      bif cY p0.fCall.fCommand.fText ByteArray.empty then
       bif (p0.fCall.fCommand.fN==0) then
        0
       else
       8
      else
      8
     else
     8
    else
    8
   else
   8
  else
  8
 else
 8
noncomputable def wire_CheckItem_v (p0:GItem):Int:=
 bif (ck_wire_CheckItem_k1_v p0) then
  2
 else
 bif p0.fNop then
  wire_CheckItem_v_c0 p0
 else
 (clCCall_v p0.fCall)
noncomputable def wire_CheckItem (p0:GItem):Option Int:=some (wire_CheckItem_v p0)
theorem wire_CheckItem_t (p0:GItem):wire_CheckItem p0=some (wire_CheckItem_v p0):=rfl
def K_wire_CheckItem (C:aj):Prop:=∀(p0:GItem) (r:Int),wire_CheckItem p0=some r→C 46 [.agg [.v (.i .i64 p0.fTerm),.v (.i .i64 p0.fTime),.v (.b p0.fNop),.v (.i .i64 p0.fCall.fClient),.v (.i .i64 p0.fCall.fSeq),.v (.i .i64 p0.fCall.fCommand.fKind),.v (.s p0.fCall.fCommand.fKey),.v (.s p0.fCall.fCommand.fField),.v (.s p0.fCall.fCommand.fText),.v (.i .i64 p0.fCall.fCommand.fN)]] []=some (.v (.i .i64 r),[])
noncomputable def ck_ledger_Check_k1_v_c0 (p0:GLog):Bool:=
 bif decide (p0.fBaseTerm<0) then
  true
 else
 bif decide (1048576<p0.fBaseTerm) then
  true
 else
 bif (p0.fBase==0) then
  bif (p0.fBaseTerm==0) then
   bif decide (200<(p0.fItems.length:Int)) then
    true
   else
   decide ((IntKind.i64.wrap (1048576-(p0.fItems.length:Int)))<p0.fBase)
  else
  true
 else
 bif (p0.fBaseTerm==0) then
  true
 else
 bif decide (200<(p0.fItems.length:Int)) then
  true
 else
 decide ((IntKind.i64.wrap (1048576-(p0.fItems.length:Int)))<p0.fBase)
noncomputable def ck_ledger_Check_k1_v (p0:GLog):Bool:=
 bif decide (p0.fBase<0) then
  true
 else
 ck_ledger_Check_k1_v_c0 p0
noncomputable def ck_ledger_Check_k7v2_v (p0:Int) (p1:Int) (p2:List GItem) (p3:Int) (p4:Int) (p5:GItem):Bool:=
 bif ((wire_CheckItem_v p5)==0) then
  bif decide (p5.fTerm<p0) then
   true
  else
  decide (p5.fTime<p1)
 else
 true
noncomputable def st_ledger_Check_0 (p2:List GItem) (p3:Int) (s:Int×Int×Int):Option ((Int×Int×Int)⊕(GItem⊕Unit)):=
 match s with
 |(p0,p1,p4)=>
  bif decide (p4<p3) then
   oB (idx p2 p4) fun x1=>
   bif (ck_ledger_Check_k7v2_v p0 p1 p2 p3 p4 x1) then
    some (.inr (.inl x1))
   else
   some (.inl (x1.fTerm,x1.fTime,(IntKind.i64.wrap (p4+1))))
  else
  some (.inr (.inr ()))
noncomputable def ledger_Check (p0:GLog):Option Int:=
 bif (ck_ledger_Check_k1_v p0) then
  some 13
 else
 oB (cM (st_ledger_Check_0 p0.fItems (p0.fItems.length:Int)) (p0.fBaseTerm,0,0)) fun
 | .inl x1=>
  some 13
 | .inr _=>
  some 0
def K_ledger_Check (C:aj):Prop:=∀(p0:GLog) (r:Int),ledger_Check p0=some r→C 53 [.agg [.v (.i .i64 p0.fBase),.v (.i .i64 p0.fBaseTerm),.v (.sl 10 (ah GItem.row p0.fItems))]] []=some (.v (.i .i64 r),[])
noncomputable def tape_number (p0:Int):Option Bool:=
 bif decide (1≤p0) then
  some (decide (p0≤1048576))
 else
 some false
noncomputable def tape_number_v (p0:Int):Bool:=(decide (1≤p0)&&decide (p0≤1048576))
theorem tape_number_t (p0:Int):tape_number p0=some (tape_number_v p0):=by
 simp only [tape_number,tape_number_v]
 cases decide (1≤p0)<;>rfl
def K_tape_number (C:aj):Prop:=∀(p0:Int) (r:Bool),tape_number p0=some r→C 45 [.v (.i .i64 p0)] []=some (.v (.b r),[])
noncomputable def value_elements_v (p0:GValue):Int:=
 (IntKind.i64.wrap ((IntKind.i64.wrap ((p0.fPairs.length:Int)+(p0.fItems.length:Int)))+(p0.fScores.length:Int)))
noncomputable def value_elements (p0:GValue):Option Int:=some (value_elements_v p0)
theorem value_elements_t (p0:GValue):value_elements p0=some (value_elements_v p0):=rfl
def K_value_elements (C:aj):Prop:=∀(p0:GValue) (r:Int),value_elements p0=some r→C 114 [.agg [.v (.i .i64 p0.fKind),.v (.s p0.fText),.v (.i .i64 p0.fCount),.v (.sl 2 (ah GPair.row p0.fPairs)),.v (.sl 1 (ah bY p0.fItems)),.v (.sl 2 (ah GScore.row p0.fScores))]] []=some (.v (.i .i64 r),[])
noncomputable def vaC_fn1 (p0:ByteArray):Option Bool:=
 some (!(value_text_v p0))
noncomputable def vaC_fn1_v (p0:ByteArray):Bool:=(!(value_text_v p0))
theorem vaC_fn1_t (p0:ByteArray):vaC_fn1 p0=some (vaC_fn1_v p0):=by
 simp only [vaC_fn1,vaC_fn1_v]
def K_vaC_fn1 (C:aj):Prop:=∀(p0:ByteArray) (r:Bool),vaC_fn1 p0=some r→C 116 [.v (.s p0)] []=some (.v (.b r),[])
noncomputable def st_sISvaC_fn1_0 (p0:List ByteArray) (p1:Int) (s:Int):Option (Int⊕(Int⊕Unit)):=
 match s with
 |p2=>
  bif decide (p2<p1) then
   oB (idx p0 p2) fun x1=>
   bif (vaC_fn1_v x1) then
    some (.inr (.inl p2))
   else
   some (.inl (IntKind.i64.wrap (p2+1)))
  else
  some (.inr (.inr ()))
noncomputable def sISvaC_fn1 (p0:List ByteArray):Option Int:=
 oB (cM (st_sISvaC_fn1_0 p0 (p0.length:Int)) 0) fun
 | .inl x1=>
  some x1
 | .inr _=>
  some (-1)
def K_sISvaC_fn1 (C:aj):Prop:=∀(p0:List ByteArray) (r:Int),sISvaC_fn1 p0=some r→C 131 [.v (.sl 1 (ah bY p0)),.clo 116 []] []=some (.v (.i .i64 r),[])
noncomputable def sCSvaC_fn1 (p0:List ByteArray):Option Bool:=
 oB (sISvaC_fn1 p0) fun x1=>
 some (decide (0≤x1))
def K_sCSvaC_fn1 (C:aj):Prop:=∀(p0:List ByteArray) (r:Bool),sCSvaC_fn1 p0=some r→C 91 [.v (.sl 1 (ah bY p0)),.clo 116 []] []=some (.v (.b r),[])
noncomputable def vaC_fn2 (p0:GPair):Option Bool:=
 bif (value_field_v p0.fField) then
  some (!(value_text_v p0.fText))
 else
 some true
noncomputable def vaC_fn2_v (p0:GPair):Bool:=(bif (value_field_v p0.fField) then (!(value_text_v p0.fText)) else true)
theorem vaC_fn2_t (p0:GPair):vaC_fn2 p0=some (vaC_fn2_v p0):=by
 simp only [vaC_fn2,vaC_fn2_v]
 cases (value_field_v p0.fField)<;>rfl
def K_vaC_fn2 (C:aj):Prop:=∀(p0:GPair) (r:Bool),vaC_fn2 p0=some r→C 118 [.agg [.v (.s p0.fField),.v (.s p0.fText)]] []=some (.v (.b r),[])
noncomputable def st_sIPvaC_fn2_0 (p0:List GPair) (p1:Int) (s:Int):Option (Int⊕(Int⊕Unit)):=
 match s with
 |p2=>
  bif decide (p2<p1) then
   oB (idx p0 p2) fun x1=>
   bif (vaC_fn2_v x1) then
    some (.inr (.inl p2))
   else
   some (.inl (IntKind.i64.wrap (p2+1)))
  else
  some (.inr (.inr ()))
noncomputable def sIPvaC_fn2 (p0:List GPair):Option Int:=
 oB (cM (st_sIPvaC_fn2_0 p0 (p0.length:Int)) 0) fun
 | .inl x1=>
  some x1
 | .inr _=>
  some (-1)
def K_sIPvaC_fn2 (C:aj):Prop:=∀(p0:List GPair) (r:Int),sIPvaC_fn2 p0=some r→C 136 [.v (.sl 2 (ah GPair.row p0)),.clo 118 []] []=some (.v (.i .i64 r),[])
noncomputable def sCPvaC_fn2 (p0:List GPair):Option Bool:=
 oB (sIPvaC_fn2 p0) fun x1=>
 some (decide (0≤x1))
def K_sCPvaC_fn2 (C:aj):Prop:=∀(p0:List GPair) (r:Bool),sCPvaC_fn2 p0=some r→C 117 [.v (.sl 2 (ah GPair.row p0)),.clo 118 []] []=some (.v (.b r),[])
noncomputable def vaC_fn3 (p0:GScore):Option Bool:=
 some (!(value_text_v p0.fMember))
noncomputable def vaC_fn3_v (p0:GScore):Bool:=(!(value_text_v p0.fMember))
theorem vaC_fn3_t (p0:GScore):vaC_fn3 p0=some (vaC_fn3_v p0):=by
 simp only [vaC_fn3,vaC_fn3_v]
def K_vaC_fn3 (C:aj):Prop:=∀(p0:GScore) (r:Bool),vaC_fn3 p0=some r→C 121 [.agg [.v (.s p0.fMember),.v (.i .i64 p0.fN)]] []=some (.v (.b r),[])
noncomputable def st_sIRvaC_fn3_0 (p0:List GScore) (p1:Int) (s:Int):Option (Int⊕(Int⊕Unit)):=
 match s with
 |p2=>
  bif decide (p2<p1) then
   oB (idx p0 p2) fun x1=>
   bif (vaC_fn3_v x1) then
    some (.inr (.inl p2))
   else
   some (.inl (IntKind.i64.wrap (p2+1)))
  else
  some (.inr (.inr ()))
noncomputable def sIRvaC_fn3 (p0:List GScore):Option Int:=
 oB (cM (st_sIRvaC_fn3_0 p0 (p0.length:Int)) 0) fun
 | .inl x1=>
  some x1
 | .inr _=>
  some (-1)
def K_sIRvaC_fn3 (C:aj):Prop:=∀(p0:List GScore) (r:Int),sIRvaC_fn3 p0=some r→C 137 [.v (.sl 2 (ah GScore.row p0)),.clo 121 []] []=some (.v (.i .i64 r),[])
noncomputable def sCRvaC_fn3 (p0:List GScore):Option Bool:=
 oB (sIRvaC_fn3 p0) fun x1=>
 some (decide (0≤x1))
def K_sCRvaC_fn3 (C:aj):Prop:=∀(p0:List GScore) (r:Bool),sCRvaC_fn3 p0=some r→C 120 [.v (.sl 2 (ah GScore.row p0)),.clo 121 []] []=some (.v (.b r),[])
noncomputable def vaC_fn4 (p0:GScore):Option Bool:=
 some (!(value_count_v p0.fN))
noncomputable def vaC_fn4_v (p0:GScore):Bool:=(!(value_count_v p0.fN))
theorem vaC_fn4_t (p0:GScore):vaC_fn4 p0=some (vaC_fn4_v p0):=by
 simp only [vaC_fn4,vaC_fn4_v]
def K_vaC_fn4 (C:aj):Prop:=∀(p0:GScore) (r:Bool),vaC_fn4 p0=some r→C 123 [.agg [.v (.s p0.fMember),.v (.i .i64 p0.fN)]] []=some (.v (.b r),[])
noncomputable def st_sIRvaC_fn4_0 (p0:List GScore) (p1:Int) (s:Int):Option (Int⊕(Int⊕Unit)):=
 match s with
 |p2=>
  bif decide (p2<p1) then
   oB (idx p0 p2) fun x1=>
   bif (vaC_fn4_v x1) then
    some (.inr (.inl p2))
   else
   some (.inl (IntKind.i64.wrap (p2+1)))
  else
  some (.inr (.inr ()))
noncomputable def sIRvaC_fn4 (p0:List GScore):Option Int:=
 oB (cM (st_sIRvaC_fn4_0 p0 (p0.length:Int)) 0) fun
 | .inl x1=>
  some x1
 | .inr _=>
  some (-1)
def K_sIRvaC_fn4 (C:aj):Prop:=∀(p0:List GScore) (r:Int),sIRvaC_fn4 p0=some r→C 137 [.v (.sl 2 (ah GScore.row p0)),.clo 123 []] []=some (.v (.i .i64 r),[])
noncomputable def sCRvaC_fn4 (p0:List GScore):Option Bool:=
 oB (sIRvaC_fn4 p0) fun x1=>
 some (decide (0≤x1))
def K_sCRvaC_fn4 (C:aj):Prop:=∀(p0:List GScore) (r:Bool),sCRvaC_fn4 p0=some r→C 120 [.v (.sl 2 (ah GScore.row p0)),.clo 123 []] []=some (.v (.b r),[])
def cmpstring (a b:ByteArray):Option Int:=some (cmpS a b)
def cmpstring_v (a b:ByteArray):Int:=cmpS a b
theorem cmpstring_t (a b:ByteArray):cmpstring a b=some (cmpstring_v a b):=rfl
def K_cmpstring (C:aj):Prop:=∀(p0:ByteArray) (p1:ByteArray) (r:Int),cmpstring p0 p1=some r→C 144 [.v (.s p0),.v (.s p1)] []=some (.v (.i .i64 r),[])
noncomputable def ibCompareString_v (p0:ByteArray) (p1:ByteArray):Int:=
 (cmpstring_v p0 p1)
noncomputable def ibCompareString (p0:ByteArray) (p1:ByteArray):Option Int:=some (ibCompareString_v p0 p1)
theorem ibCompareString_t (p0:ByteArray) (p1:ByteArray):ibCompareString p0 p1=some (ibCompareString_v p0 p1):=rfl
def K_ibCompareString (C:aj):Prop:=∀(p0:ByteArray) (p1:ByteArray) (r:Int),ibCompareString p0 p1=some r→C 140 [.v (.s p0),.v (.s p1)] []=some (.v (.i .i64 r),[])
noncomputable def strings_Compare_v (p0:ByteArray) (p1:ByteArray):Int:=
 (ibCompareString_v p0 p1)
noncomputable def strings_Compare (p0:ByteArray) (p1:ByteArray):Option Int:=some (strings_Compare_v p0 p1)
theorem strings_Compare_t (p0:ByteArray) (p1:ByteArray):strings_Compare p0 p1=some (strings_Compare_v p0 p1):=rfl
def K_strings_Compare (C:aj):Prop:=∀(p0:ByteArray) (p1:ByteArray) (r:Int),strings_Compare p0 p1=some r→C 129 [.v (.s p0),.v (.s p1)] []=some (.v (.i .i64 r),[])
noncomputable def value_byField_v (p0:GPair) (p1:GPair):Int:=
 (strings_Compare_v p0.fField p1.fField)
noncomputable def value_byField (p0:GPair) (p1:GPair):Option Int:=some (value_byField_v p0 p1)
theorem value_byField_t (p0:GPair) (p1:GPair):value_byField p0 p1=some (value_byField_v p0 p1):=rfl
def K_value_byField (C:aj):Prop:=∀(p0:GPair) (p1:GPair) (r:Int),value_byField p0 p1=some r→C 125 [.agg [.v (.s p0.fField),.v (.s p0.fText)],.agg [.v (.s p1.fField),.v (.s p1.fText)]] []=some (.v (.i .i64 r),[])
noncomputable def st_value_rising_Pair_value_byField_0 (p0:List GPair) (s:Int):Option (Int⊕(Unit⊕Unit)):=
 match s with
 |p1=>
  bif decide (p1<(p0.length:Int)) then
   oB (idx p0 (IntKind.i64.wrap (p1-1))) fun x1=>
   oB (idx p0 p1) fun x2=>
   bif decide (0≤(value_byField_v x1 x2)) then
    some (.inr (.inl ()))
   else
   some (.inl (IntKind.i64.wrap (p1+1)))
  else
  some (.inr (.inr ()))
noncomputable def value_rising_Pair_value_byField (p0:List GPair):Option Bool:=
 oB (cM (st_value_rising_Pair_value_byField_0 p0) 1) fun
 | .inl _=>
  some false
 | .inr _=>
  some true
def K_value_rising_Pair_value_byField (C:aj):Prop:=∀(p0:List GPair) (r:Bool),value_rising_Pair_value_byField p0=some r→C 124 [.v (.sl 2 (ah GPair.row p0)),.clo 125 []] []=some (.v (.b r),[])
noncomputable def cmp_isNaN_int (p0:Int):Option Bool:=
 some false
noncomputable def cmp_isNaN_int_v (p0:Int):Bool:=false
theorem cmp_isNaN_int_t (p0:Int):cmp_isNaN_int p0=some (cmp_isNaN_int_v p0):=by
 simp only [cmp_isNaN_int,cmp_isNaN_int_v]
def K_cmp_isNaN_int (C:aj):Prop:=∀(p0:Int) (r:Bool),cmp_isNaN_int p0=some r→C 143 [.v (.i .i64 p0)] []=some (.v (.b r),[])
noncomputable def cmp_Compare_int_v (p0:Int) (p1:Int):Int:=
 bif (cmp_isNaN_int_v p0) then
  bif (cmp_isNaN_int_v p1) then
   0
  else
  (-1)
 else
 bif (cmp_isNaN_int_v p1) then
  1
 else
 bif decide (p0<p1) then
  (-1)
 else
 bif decide (p1<p0) then
  1
 else
 0
noncomputable def cmp_Compare_int (p0:Int) (p1:Int):Option Int:=some (cmp_Compare_int_v p0 p1)
theorem cmp_Compare_int_t (p0:Int) (p1:Int):cmp_Compare_int p0 p1=some (cmp_Compare_int_v p0 p1):=rfl
def K_cmp_Compare_int (C:aj):Prop:=∀(p0:Int) (p1:Int) (r:Int),cmp_Compare_int p0 p1=some r→C 139 [.v (.i .i64 p0),.v (.i .i64 p1)] []=some (.v (.i .i64 r),[])
noncomputable def st_cmp_Or_int_0 (p0:List Int) (p1:Int) (s:Int):Option (Int⊕(Int⊕Unit)):=
 match s with
 |p2=>
  bif decide (p2<p1) then
   oB (idx p0 p2) fun x1=>
   bif (x1==0) then
    some (.inl (IntKind.i64.wrap (p2+1)))
   else
   some (.inr (.inl x1))
  else
  some (.inr (.inr ()))
noncomputable def cmp_Or_int (p0:List Int):Option Int:=
 oB (cM (st_cmp_Or_int_0 p0 (p0.length:Int)) 0) fun
 | .inl x1=>
  some x1
 | .inr _=>
  some 0
def K_cmp_Or_int (C:aj):Prop:=∀(p0:List Int) (r:Int),cmp_Or_int p0=some r→C 138 [.v (.sl 1 (ah rowI p0))] []=some (.v (.i .i64 r),[])
noncomputable def value_byScore (p0:GScore) (p1:GScore):Option Int:=
 oB (cmp_Or_int [(cmp_Compare_int_v p0.fN p1.fN),(strings_Compare_v p0.fMember p1.fMember)]) fun x1=>
 some x1
def K_value_byScore (C:aj):Prop:=∀(p0:GScore) (p1:GScore) (r:Int),value_byScore p0 p1=some r→C 127 [.agg [.v (.s p0.fMember),.v (.i .i64 p0.fN)],.agg [.v (.s p1.fMember),.v (.i .i64 p1.fN)]] []=some (.v (.i .i64 r),[])
noncomputable def st_value_rising_Score_value_byScore_0 (p0:List GScore) (s:Int):Option (Int⊕(Unit⊕Unit)):=
 match s with
 |p1=>
  bif decide (p1<(p0.length:Int)) then
   oB (idx p0 (IntKind.i64.wrap (p1-1))) fun x1=>
   oB (idx p0 p1) fun x2=>
   oB (value_byScore x1 x2) fun x3=>
   bif decide (0≤x3) then
    some (.inr (.inl ()))
   else
   some (.inl (IntKind.i64.wrap (p1+1)))
  else
  some (.inr (.inr ()))
noncomputable def value_rising_Score_value_byScore (p0:List GScore):Option Bool:=
 oB (cM (st_value_rising_Score_value_byScore_0 p0) 1) fun
 | .inl _=>
  some false
 | .inr _=>
  some true
def K_value_rising_Score_value_byScore (C:aj):Prop:=∀(p0:List GScore) (r:Bool),value_rising_Score_value_byScore p0=some r→C 126 [.v (.sl 2 (ah GScore.row p0)),.clo 127 []] []=some (.v (.b r),[])
noncomputable def st_value_rising_string_strings_Compare_0 (p0:List ByteArray) (s:Int):Option (Int⊕(Unit⊕Unit)):=
 match s with
 |p1=>
  bif decide (p1<(p0.length:Int)) then
   oB (idx p0 (IntKind.i64.wrap (p1-1))) fun x1=>
   oB (idx p0 p1) fun x2=>
   bif decide (0≤(strings_Compare_v x1 x2)) then
    some (.inr (.inl ()))
   else
   some (.inl (IntKind.i64.wrap (p1+1)))
  else
  some (.inr (.inr ()))
noncomputable def value_rising_string_strings_Compare (p0:List ByteArray):Option Bool:=
 oB (cM (st_value_rising_string_strings_Compare_0 p0) 1) fun
 | .inl _=>
  some false
 | .inr _=>
  some true
def K_value_rising_string_strings_Compare (C:aj):Prop:=∀(p0:List ByteArray) (r:Bool),value_rising_string_strings_Compare p0=some r→C 128 [.v (.sl 1 (ah bY p0)),.clo 129 []] []=some (.v (.b r),[])
noncomputable def value_rank_fn1 (p0:GScore) (p1:ByteArray):Option (Bool×ByteArray):=
 some (cY p0.fMember p1,p1)
def K_value_rank_fn1 (C:aj):Prop:=∀(p0:GScore) (p1:ByteArray) (r:Bool×ByteArray),value_rank_fn1 p0 p1=some r→C 141 [.agg [.v (.s p0.fMember),.v (.i .i64 p0.fN)],.ptr 0 0] [[.v (.s p1)]]=some (.v (.b r.1),[[.v (.s r.2)]])
noncomputable def st_sIRvalue_rank_fn1_0 (p0:List GScore) (p1:Int) (s:Int×ByteArray):Option ((Int×ByteArray)⊕((Int×ByteArray)⊕ByteArray)):=
 match s with
 |(p2,p3)=>
  bif decide (p2<p1) then
   oB (idx p0 p2) fun x1=>
   oB (value_rank_fn1 x1 p3) fun (x2,x3)=>
   bif x2 then
    some (.inr (.inl (p2,x3)))
   else
   some (.inl ((IntKind.i64.wrap (p2+1)),x3))
  else
  some (.inr (.inr p3))
noncomputable def sIRvalue_rank_fn1 (p0:List GScore) (p1:ByteArray):Option (Int×ByteArray):=
 oB (cM (st_sIRvalue_rank_fn1_0 p0 (p0.length:Int)) (0,p1)) fun
 | .inl (x1,x2)=>
  some (x1,x2)
 | .inr x1=>
  some ((-1),x1)
def K_sIRvalue_rank_fn1 (C:aj):Prop:=∀(p0:List GScore) (p1:ByteArray) (r:Int×ByteArray),sIRvalue_rank_fn1 p0 p1=some r→C 137 [.v (.sl 2 (ah GScore.row p0)),.clo 141 [.ptr 0 0]] [[.v (.s p1)]]=some (.v (.i .i64 r.1),[[.v (.s r.2)]])
noncomputable def value_rank (p0:List GScore) (p1:ByteArray):Option Int:=
 oB (sIRvalue_rank_fn1 p0 p1) fun (x1,x2)=>
 some x1
def K_value_rank (C:aj):Prop:=∀(p0:List GScore) (p1:ByteArray) (r:Int),value_rank p0 p1=some r→C 130 [.v (.sl 2 (ah GScore.row p0)),.v (.s p1)] []=some (.v (.i .i64 r),[])
noncomputable def ck_vaC_k16_v (p0:GValue) (p1:Int) (p2:Int) (p3:List GPair) (p4:List ByteArray) (p5:List GScore):Bool:=
 bif decide (3≤p0.fKind) then
  bif decide ((value_elements_v p0)<1) then
   true
  else
  decide (20<(value_elements_v p0))
 else
 false
noncomputable def ck_vaC_k26 (p0:GValue) (p1:Int) (p2:Int) (p3:List GPair) (p4:List ByteArray) (p5:List GScore):Option Bool:=
 oB (value_rising_Pair_value_byField p0.fPairs) fun x1=>
 bif x1 then
  oB (value_rising_Score_value_byScore p0.fScores) fun x2=>
  bif x2 then
   bif (p0.fKind==5) then
    oB (value_rising_string_strings_Compare p0.fItems) fun x3=>
    some x3
   else
   some true
  else
  some false
 else
 some false
noncomputable def st_vaC_1 (p0:GValue) (p2:List GScore) (p3:Int) (p5:Int) (p6:Int) (p7:List GPair) (p8:List ByteArray) (s:Bool×Int):Option ((Bool×Int)⊕Bool):=
 match s with
 |(p1,p4)=>
  bif decide (p4<p3) then
   oB (idx p2 p4) fun x1=>
   bif p1 then
    bif rngB 0 p4 (p0.fScores.length:Int) then
     oB (value_rank (dm p0.fScores 0 p4) x1.fMember) fun x2=>
     some (.inl (decide (x2<0),(IntKind.i64.wrap (p4+1))))
    else
    none
   else
   some (.inl (false,(IntKind.i64.wrap (p4+1))))
  else
  some (.inr p1)
noncomputable def ck_vaC_k16v2_v (p0:GValue) (p1:Int) (p2:ByteArray) (p3:List GPair) (p4:List ByteArray) (p5:List GScore):Bool:=
 bif decide (3≤p0.fKind) then
  bif decide ((value_elements_v p0)<1) then
   true
  else
  decide (20<(value_elements_v p0))
 else
 false
noncomputable def ck_vaC_k26v2 (p0:GValue) (p1:Int) (p2:ByteArray) (p3:List GPair) (p4:List ByteArray) (p5:List GScore):Option Bool:=
 oB (value_rising_Pair_value_byField p0.fPairs) fun x1=>
 bif x1 then
  oB (value_rising_Score_value_byScore p0.fScores) fun x2=>
  bif x2 then
   bif (p0.fKind==5) then
    oB (value_rising_string_strings_Compare p0.fItems) fun x3=>
    some x3
   else
   some true
  else
  some false
 else
 some false
noncomputable def st_vaC_1v2 (p0:GValue) (p2:List GScore) (p3:Int) (p5:Int) (p6:ByteArray) (p7:List GPair) (p8:List ByteArray) (s:Bool×Int):Option ((Bool×Int)⊕Bool):=
 match s with
 |(p1,p4)=>
  bif decide (p4<p3) then
   oB (idx p2 p4) fun x1=>
   bif p1 then
    bif rngB 0 p4 (p0.fScores.length:Int) then
     oB (value_rank (dm p0.fScores 0 p4) x1.fMember) fun x2=>
     some (.inl (decide (x2<0),(IntKind.i64.wrap (p4+1))))
    else
    none
   else
   some (.inl (false,(IntKind.i64.wrap (p4+1))))
  else
  some (.inr p1)
noncomputable def ck_vaC_k16v3_v (p0:GValue) (p1:Int) (p2:ByteArray) (p3:Int) (p4:List ByteArray) (p5:List GScore):Bool:=
 bif decide (3≤p0.fKind) then
  bif decide ((value_elements_v p0)<1) then
   true
  else
  decide (20<(value_elements_v p0))
 else
 false
noncomputable def ck_vaC_k26v3 (p0:GValue) (p1:Int) (p2:ByteArray) (p3:Int) (p4:List ByteArray) (p5:List GScore):Option Bool:=
 oB (value_rising_Pair_value_byField p0.fPairs) fun x1=>
 bif x1 then
  oB (value_rising_Score_value_byScore p0.fScores) fun x2=>
  bif x2 then
   bif (p0.fKind==5) then
    oB (value_rising_string_strings_Compare p0.fItems) fun x3=>
    some x3
   else
   some true
  else
  some false
 else
 some false
noncomputable def st_vaC_1v3 (p0:GValue) (p2:List GScore) (p3:Int) (p5:Int) (p6:ByteArray) (p7:Int) (p8:List ByteArray) (s:Bool×Int):Option ((Bool×Int)⊕Bool):=
 match s with
 |(p1,p4)=>
  bif decide (p4<p3) then
   oB (idx p2 p4) fun x1=>
   bif p1 then
    bif rngB 0 p4 (p0.fScores.length:Int) then
     oB (value_rank (dm p0.fScores 0 p4) x1.fMember) fun x2=>
     some (.inl (decide (x2<0),(IntKind.i64.wrap (p4+1))))
    else
    none
   else
   some (.inl (false,(IntKind.i64.wrap (p4+1))))
  else
  some (.inr p1)
noncomputable def ck_vaC_k16v4_v (p0:GValue) (p1:Int) (p2:ByteArray) (p3:Int) (p4:List GPair) (p5:List ByteArray):Bool:=
 bif decide (3≤p0.fKind) then
  bif decide ((value_elements_v p0)<1) then
   true
  else
  decide (20<(value_elements_v p0))
 else
 false
noncomputable def ck_vaC_k26v4 (p0:GValue) (p1:Int) (p2:ByteArray) (p3:Int) (p4:List GPair) (p5:List ByteArray):Option Bool:=
 oB (value_rising_Pair_value_byField p0.fPairs) fun x1=>
 bif x1 then
  oB (value_rising_Score_value_byScore p0.fScores) fun x2=>
  bif x2 then
   bif (p0.fKind==5) then
    oB (value_rising_string_strings_Compare p0.fItems) fun x3=>
    some x3
   else
   some true
  else
  some false
 else
 some false
noncomputable def st_vaC_1v4 (p0:GValue) (p2:List GScore) (p3:Int) (p5:Int) (p6:ByteArray) (p7:Int) (p8:List GPair) (p9:List ByteArray) (s:Bool×Int):Option ((Bool×Int)⊕Bool):=
 match s with
 |(p1,p4)=>
  bif decide (p4<p3) then
   oB (idx p2 p4) fun x1=>
   bif p1 then
    bif rngB 0 p4 (p0.fScores.length:Int) then
     oB (value_rank (dm p0.fScores 0 p4) x1.fMember) fun x2=>
     some (.inl (decide (x2<0),(IntKind.i64.wrap (p4+1))))
    else
    none
   else
   some (.inl (false,(IntKind.i64.wrap (p4+1))))
  else
  some (.inr p1)
noncomputable def ck_vaC_k16v5_v (p0:GValue) (p1:Int) (p2:ByteArray) (p3:Int) (p4:List GPair) (p5:List GScore):Bool:=
 bif decide (3≤p0.fKind) then
  bif decide ((value_elements_v p0)<1) then
   true
  else
  decide (20<(value_elements_v p0))
 else
 false
noncomputable def ck_vaC_k26v5 (p0:GValue) (p1:Int) (p2:ByteArray) (p3:Int) (p4:List GPair) (p5:List GScore):Option Bool:=
 oB (value_rising_Pair_value_byField p0.fPairs) fun x1=>
 bif x1 then
  oB (value_rising_Score_value_byScore p0.fScores) fun x2=>
  bif x2 then
   bif (p0.fKind==5) then
    oB (value_rising_string_strings_Compare p0.fItems) fun x3=>
    some x3
   else
   some true
  else
  some false
 else
 some false
noncomputable def st_vaC_1v5 (p0:GValue) (p2:List GScore) (p3:Int) (p5:Int) (p6:ByteArray) (p7:Int) (p8:List GPair) (s:Bool×Int):Option ((Bool×Int)⊕Bool):=
 match s with
 |(p1,p4)=>
  bif decide (p4<p3) then
   oB (idx p2 p4) fun x1=>
   bif p1 then
    bif rngB 0 p4 (p0.fScores.length:Int) then
     oB (value_rank (dm p0.fScores 0 p4) x1.fMember) fun x2=>
     some (.inl (decide (x2<0),(IntKind.i64.wrap (p4+1))))
    else
    none
   else
   some (.inl (false,(IntKind.i64.wrap (p4+1))))
  else
  some (.inr p1)
noncomputable def vaC_c0 (p0:GValue) (x1:Bool) (x2:Bool) (x3:Bool):Option Int:=
 bif x3 then
  some 1
 else
 bif (value_count_v p0.fCount) then
  oB (sCRvaC_fn4 p0.fScores) fun x4=>
  bif x4 then
   some 2
  else
  oB (ck_vaC_k26 p0 p0.fKind p0.fCount p0.fPairs p0.fItems p0.fScores) fun x5=>
  oB (cM (st_vaC_1 p0 p0.fScores (p0.fScores.length:Int) p0.fKind p0.fCount p0.fPairs p0.fItems) (x5,0)) fun x6=>
  bif x6 then
   some 0
  else
  some 10
 else
 some 2
noncomputable def vaC_c1 (p0:GValue):Option Int:=
 bif (ck_vaC_k16_v p0 p0.fKind p0.fCount p0.fPairs p0.fItems p0.fScores) then
  some 1
 else
 bif (value_text_v p0.fText) then
  oB (sCSvaC_fn1 p0.fItems) fun x1=>
  bif x1 then
   some 1
  else
  oB (sCPvaC_fn2 p0.fPairs) fun x2=>
  bif x2 then
   some 1
  else
  oB (sCRvaC_fn3 p0.fScores) fun x3=>
  vaC_c0 p0 x1 x2 x3
 else
 some 1
noncomputable def vaC_c2 (p0:GValue) (x1:Bool) (x2:Bool) (x3:Bool):Option Int:=
 bif x3 then
  some 1
 else
 bif (value_count_v p0.fCount) then
  oB (sCRvaC_fn4 p0.fScores) fun x4=>
  bif x4 then
   some 2
  else
  oB (ck_vaC_k26v2 p0 p0.fKind p0.fText p0.fPairs p0.fItems p0.fScores) fun x5=>
  oB (cM (st_vaC_1v2 p0 p0.fScores (p0.fScores.length:Int) p0.fKind p0.fText p0.fPairs p0.fItems) (x5,0)) fun x6=>
  bif x6 then
   some 0
  else
  some 10
 else
 some 2
noncomputable def vaC_c3 (p0:GValue):Option Int:=
 bif (ck_vaC_k16v2_v p0 p0.fKind p0.fText p0.fPairs p0.fItems p0.fScores) then
  some 1
 else
 bif (value_text_v p0.fText) then
  oB (sCSvaC_fn1 p0.fItems) fun x1=>
  bif x1 then
   some 1
  else
  oB (sCPvaC_fn2 p0.fPairs) fun x2=>
  bif x2 then
   some 1
  else
  oB (sCRvaC_fn3 p0.fScores) fun x3=>
  vaC_c2 p0 x1 x2 x3
 else
 some 1
noncomputable def vaC_c4 (p0:GValue) (x1:Bool) (x2:Bool) (x3:Bool):Option Int:=
 bif x3 then
  some 1
 else
 bif (value_count_v p0.fCount) then
  oB (sCRvaC_fn4 p0.fScores) fun x4=>
  bif x4 then
   some 2
  else
  oB (ck_vaC_k26v3 p0 p0.fKind p0.fText p0.fCount p0.fItems p0.fScores) fun x5=>
  oB (cM (st_vaC_1v3 p0 p0.fScores (p0.fScores.length:Int) p0.fKind p0.fText p0.fCount p0.fItems) (x5,0)) fun x6=>
  bif x6 then
   some 0
  else
  some 10
 else
 some 2
noncomputable def vaC_c5 (p0:GValue):Option Int:=
 bif (ck_vaC_k16v3_v p0 p0.fKind p0.fText p0.fCount p0.fItems p0.fScores) then
  some 1
 else
 bif (value_text_v p0.fText) then
  oB (sCSvaC_fn1 p0.fItems) fun x1=>
  bif x1 then
   some 1
  else
  oB (sCPvaC_fn2 p0.fPairs) fun x2=>
  bif x2 then
   some 1
  else
  oB (sCRvaC_fn3 p0.fScores) fun x3=>
  vaC_c4 p0 x1 x2 x3
 else
 some 1
noncomputable def vaC_c6 (p0:GValue) (x1:Bool) (x2:Bool) (x3:Bool):Option Int:=
 bif x3 then
  some 1
 else
 bif (value_count_v p0.fCount) then
  oB (sCRvaC_fn4 p0.fScores) fun x4=>
  bif x4 then
   some 2
  else
  oB (ck_vaC_k26v4 p0 p0.fKind p0.fText p0.fCount p0.fPairs p0.fItems) fun x5=>
  oB (cM (st_vaC_1v4 p0 p0.fScores (p0.fScores.length:Int) p0.fKind p0.fText p0.fCount p0.fPairs p0.fItems) (x5,0)) fun x6=>
  bif x6 then
   some 0
  else
  some 10
 else
 some 2
noncomputable def vaC_c7 (p0:GValue):Option Int:=
 bif (ck_vaC_k16v4_v p0 p0.fKind p0.fText p0.fCount p0.fPairs p0.fItems) then
  some 1
 else
 bif (value_text_v p0.fText) then
  oB (sCSvaC_fn1 p0.fItems) fun x1=>
  bif x1 then
   some 1
  else
  oB (sCPvaC_fn2 p0.fPairs) fun x2=>
  bif x2 then
   some 1
  else
  oB (sCRvaC_fn3 p0.fScores) fun x3=>
  vaC_c6 p0 x1 x2 x3
 else
 some 1
noncomputable def vaC_c8 (p0:GValue) (x1:Bool) (x2:Bool) (x3:Bool):Option Int:=
 bif x3 then
  some 1
 else
 bif (value_count_v p0.fCount) then
  oB (sCRvaC_fn4 p0.fScores) fun x4=>
  bif x4 then
   some 2
  else
  oB (ck_vaC_k26v5 p0 p0.fKind p0.fText p0.fCount p0.fPairs p0.fScores) fun x5=>
  oB (cM (st_vaC_1v5 p0 p0.fScores (p0.fScores.length:Int) p0.fKind p0.fText p0.fCount p0.fPairs) (x5,0)) fun x6=>
  bif x6 then
   some 0
  else
  some 10
 else
 some 2
noncomputable def vaC_c9 (p0:GValue):Option Int:=
 bif (ck_vaC_k16v5_v p0 p0.fKind p0.fText p0.fCount p0.fPairs p0.fScores) then
  some 1
 else
 bif (value_text_v p0.fText) then
  oB (sCSvaC_fn1 p0.fItems) fun x1=>
  bif x1 then
   some 1
  else
  oB (sCPvaC_fn2 p0.fPairs) fun x2=>
  bif x2 then
   some 1
  else
  oB (sCRvaC_fn3 p0.fScores) fun x3=>
  vaC_c8 p0 x1 x2 x3
 else
 some 1
noncomputable def vaC_c10 (p0:GValue):Option Int:=
 bif (p0.fKind==6) then
  bif cY p0.fText ByteArray.empty then
   bif (p0.fCount==0) then
    bif decide (0<(value_elements_v (GValue.mk p0.fKind p0.fText p0.fCount p0.fPairs p0.fItems []))) then
     some 8
    else
    vaC_c7 p0
   else
   some 8
  else
  some 8
 else
 bif cY p0.fText ByteArray.empty then
  bif (p0.fCount==0) then
   bif decide (0<(value_elements_v (GValue.mk p0.fKind p0.fText p0.fCount p0.fPairs [] p0.fScores))) then
    some 8
   else
   vaC_c9 p0
  else
  some 8
 else
 some 8
noncomputable def vaC_c11 (p0:GValue):Option Int:=
 bif (p0.fKind==2) then
  bif cY p0.fText ByteArray.empty then
   bif decide (0<(value_elements_v (GValue.mk p0.fKind p0.fText 0 p0.fPairs p0.fItems p0.fScores))) then
    some 8
   else
   vaC_c3 p0
  else
  some 8
 else
 bif (p0.fKind==3) then
  bif cY p0.fText ByteArray.empty then
   bif (p0.fCount==0) then
    bif decide (0<(value_elements_v (GValue.mk p0.fKind p0.fText p0.fCount [] p0.fItems p0.fScores))) then
     some 8
    else
    vaC_c5 p0
   else
   some 8
  else
  some 8
 else
 vaC_c10 p0
noncomputable def vaC (p0:GValue):Option Int:=
 bif decide (p0.fKind<1) then
  some 3
 else
 bif decide (6<p0.fKind) then
  some 3
 else
 bif (p0.fKind==1) then
  bif (p0.fCount==0) then
   bif decide (0<(value_elements_v (GValue.mk p0.fKind ByteArray.empty p0.fCount p0.fPairs p0.fItems p0.fScores))) then
    some 8
   else
   vaC_c1 p0
  else
  some 8
 else
 vaC_c11 p0
def K_vaC (C:aj):Prop:=∀(p0:GValue) (r:Int),vaC p0=some r→C 90 [.agg [.v (.i .i64 p0.fKind),.v (.s p0.fText),.v (.i .i64 p0.fCount),.v (.sl 2 (ah GPair.row p0.fPairs)),.v (.sl 1 (ah bY p0.fItems)),.v (.sl 2 (ah GScore.row p0.fScores))]] []=some (.v (.i .i64 r),[])
noncomputable def ck_store_Check_k1_v (p0:GStore):Bool:=
 bif decide (p0.fNow<0) then
  true
 else
 bif decide (1073741824<p0.fNow) then
  true
 else
 decide (12<(p0.fEntries.length:Int))
noncomputable def ck_store_Check_k6v2 (p0:GStore) (p1:Int) (p2:List GEntry) (p3:Int) (p4:GEntry):Option Bool:=
 bif decide ((p4.fKey.size:Int)<1) then
  some true
 else
 bif decide (12<(p4.fKey.size:Int)) then
  some true
 else
 oB (vaC p4.fValue) fun x1=>
 bif (x1==0) then
  bif decide (0<p1) then
   oB (idx p0.fEntries (IntKind.i64.wrap (p1-1))) fun x2=>
   some (!sltB x2.fKey p4.fKey)
  else
  some false
 else
 some true
noncomputable def ck_store_Check_k8v2_v (p0:GStore) (p1:List GEntry) (p2:Int) (p3:Int) (p4:GEntry):Bool:=
 bif (p4.fUntil==0) then
  false
 else
 bif decide (p4.fUntil≤p0.fNow) then
  true
 else
 decide (1073741824<p4.fUntil)
noncomputable def st_store_Check_0 (p0:GStore) (p1:List GEntry) (p2:Int) (s:Int):Option (Int⊕(GEntry⊕Unit)):=
 match s with
 |p3=>
  bif decide (p3<p2) then
   oB (idx p1 p3) fun x1=>
   oB (ck_store_Check_k6v2 p0 p3 p1 p2 x1) fun x2=>
   bif x2 then
    some (.inr (.inl x1))
   else
   bif (ck_store_Check_k8v2_v p0 p1 p2 p3 x1) then
    some (.inr (.inl x1))
   else
   some (.inl (IntKind.i64.wrap (p3+1)))
  else
  some (.inr (.inr ()))
noncomputable def store_Check (p0:GStore):Option Int:=
 bif (ck_store_Check_k1_v p0) then
  some 13
 else
 oB (cM (st_store_Check_0 p0 p0.fEntries (p0.fEntries.length:Int)) 0) fun
 | .inl x1=>
  some 13
 | .inr _=>
  some 0
def K_store_Check (C:aj):Prop:=∀(p0:GStore) (r:Int),store_Check p0=some r→C 71 [.agg [.v (.i .i64 p0.fNow),.v (.sl 8 (ah GEntry.row p0.fEntries))]] []=some (.v (.i .i64 r),[])
noncomputable def clCReply_fn1 (p0:ByteArray):Option Bool:=
 some (decide (20<(p0.size:Int)))
noncomputable def clCReply_fn1_v (p0:ByteArray):Bool:=decide (20<(p0.size:Int))
theorem clCReply_fn1_t (p0:ByteArray):clCReply_fn1 p0=some (clCReply_fn1_v p0):=by
 simp only [clCReply_fn1,clCReply_fn1_v]
def K_clCReply_fn1 (C:aj):Prop:=∀(p0:ByteArray) (r:Bool),clCReply_fn1 p0=some r→C 92 [.v (.s p0)] []=some (.v (.b r),[])
noncomputable def st_sISclCReply_fn1_0 (p0:List ByteArray) (p1:Int) (s:Int):Option (Int⊕(Int⊕Unit)):=
 match s with
 |p2=>
  bif decide (p2<p1) then
   oB (idx p0 p2) fun x1=>
   bif (clCReply_fn1_v x1) then
    some (.inr (.inl p2))
   else
   some (.inl (IntKind.i64.wrap (p2+1)))
  else
  some (.inr (.inr ()))
noncomputable def sISclCReply_fn1 (p0:List ByteArray):Option Int:=
 oB (cM (st_sISclCReply_fn1_0 p0 (p0.length:Int)) 0) fun
 | .inl x1=>
  some x1
 | .inr _=>
  some (-1)
def K_sISclCReply_fn1 (C:aj):Prop:=∀(p0:List ByteArray) (r:Int),sISclCReply_fn1 p0=some r→C 131 [.v (.sl 1 (ah bY p0)),.clo 92 []] []=some (.v (.i .i64 r),[])
noncomputable def sCSclCReply_fn1 (p0:List ByteArray):Option Bool:=
 oB (sISclCReply_fn1 p0) fun x1=>
 some (decide (0≤x1))
def K_sCSclCReply_fn1 (C:aj):Prop:=∀(p0:List ByteArray) (r:Bool),sCSclCReply_fn1 p0=some r→C 91 [.v (.sl 1 (ah bY p0)),.clo 92 []] []=some (.v (.b r),[])
noncomputable def clCReply_c0 (p0:GReply):Option Int:=
 bif decide (13<p0.fCode) then
  some 3
 else
 bif decide (20<(p0.fText.size:Int)) then
  some 1
 else
 bif decide (20<(p0.fList.length:Int)) then
  some 1
 else
 oB (sCSclCReply_fn1 p0.fList) fun x1=>
 bif x1 then
  some 1
 else
 bif decide (p0.fN<(-1099511627776)) then
  some 2
 else
 bif decide (1099511627776<p0.fN) then
  some 2
 else
 some 0
noncomputable def clCReply (p0:GReply):Option Int:=
 bif decide (p0.fCode<0) then
  some 3
 else
 clCReply_c0 p0
def K_clCReply (C:aj):Prop:=∀(p0:GReply) (r:Int),clCReply p0=some r→C 72 [.agg [.v (.i .i64 p0.fCode),.v (.s p0.fText),.v (.i .i64 p0.fN),.v (.sl 1 (ah bY p0.fList))]] []=some (.v (.i .i64 r),[])
noncomputable def ck_clC_k1 (p0:GMachine):Option Bool:=
 oB (store_Check p0.fStore) fun x1=>
 bif (x1==0) then
  bif decide (p0.fNext<1) then
   some true
  else
  bif decide (1048577<p0.fNext) then
   some true
  else
  some (decide (4<(p0.fClients.length:Int)))
 else
 some true
noncomputable def ck_clC_k6v2 (p0:GMachine) (p1:Int) (p2:List GClient) (p3:Int) (p4:GClient):Option Bool:=
 bif decide (p4.fId<1) then
  some true
 else
 bif decide (p0.fNext≤p4.fId) then
  some true
 else
 bif decide (0<p1) then
  oB (idx p0.fClients (IntKind.i64.wrap (p1-1))) fun x1=>
  some (decide (p4.fId≤x1.fId))
 else
 some false
noncomputable def ck_clC_k8v2 (p0:GMachine) (p1:List GClient) (p2:Int) (p3:Int) (p4:GClient):Option Bool:=
 bif decide (p4.fSeq<0) then
  some true
 else
 bif decide (1048576<p4.fSeq) then
  some true
 else
 bif decide (p4.fTime<0) then
  some true
 else
 bif decide (p0.fStore.fNow<p4.fTime) then
  some true
 else
 oB (clCReply p4.fReply) fun x1=>
 some (!(x1==0))
noncomputable def st_clC_0 (p0:GMachine) (p1:List GClient) (p2:Int) (s:Int):Option (Int⊕(GClient⊕Unit)):=
 match s with
 |p3=>
  bif decide (p3<p2) then
   oB (idx p1 p3) fun x1=>
   oB (ck_clC_k6v2 p0 p3 p1 p2 x1) fun x2=>
   bif x2 then
    some (.inr (.inl x1))
   else
   oB (ck_clC_k8v2 p0 p1 p2 p3 x1) fun x3=>
   bif x3 then
    some (.inr (.inl x1))
   else
   some (.inl (IntKind.i64.wrap (p3+1)))
  else
  some (.inr (.inr ()))
noncomputable def clC (p0:GMachine):Option Int:=
 oB (ck_clC_k1 p0) fun x1=>
 bif x1 then
  some 13
 else
 oB (cM (st_clC_0 p0 p0.fClients (p0.fClients.length:Int)) 0) fun
 | .inl x2=>
  some 13
 | .inr _=>
  some 0
def K_clC (C:aj):Prop:=∀(p0:GMachine) (r:Int),clC p0=some r→C 33 [.agg [.v (.i .i64 p0.fStore.fNow),.v (.sl 8 (ah GEntry.row p0.fStore.fEntries)),.v (.i .i64 p0.fNext),.v (.sl 7 (ah GClient.row p0.fClients))]] []=some (.v (.i .i64 r),[])
noncomputable def tape_CheckSnap (p0:GSnap):Option Int:=
 bif (tape_number_v p0.fIndex) then
  bif (tape_number_v p0.fTerm) then
   oB (clC p0.fMachine) fun x1=>
   some x1
  else
  some 2
 else
 some 2
def K_tape_CheckSnap (C:aj):Prop:=∀(p0:GSnap) (r:Int),tape_CheckSnap p0=some r→C 47 [.agg [.v (.i .i64 p0.fIndex),.v (.i .i64 p0.fTerm),.v (.i .i64 p0.fMachine.fStore.fNow),.v (.sl 8 (ah GEntry.row p0.fMachine.fStore.fEntries)),.v (.i .i64 p0.fMachine.fNext),.v (.sl 7 (ah GClient.row p0.fMachine.fClients))]] []=some (.v (.i .i64 r),[])
noncomputable def ledger_term (p0:GLog) (p1:Int):Option (Int×Int):=
 bif decide (p1<p0.fBase) then
  some (0,11)
 else
 bif (p1==p0.fBase) then
  some (p0.fBaseTerm,0)
 else
 bif decide ((p0.fItems.length:Int)<(IntKind.i64.wrap (p1-p0.fBase))) then
  some (0,5)
 else
 oB (idx p0.fItems (IntKind.i64.wrap ((IntKind.i64.wrap (p1-p0.fBase))-1))) fun x1=>
 some (x1.fTerm,0)
def K_ledger_term (C:aj):Prop:=∀(p0:GLog) (p1:Int) (r:Int×Int),ledger_term p0 p1=some r→C 100 [.agg [.v (.i .i64 p0.fBase),.v (.i .i64 p0.fBaseTerm),.v (.sl 10 (ah GItem.row p0.fItems))],.v (.i .i64 p1)] []=some (.tup [.v (.i .i64 r.1),.v (.i .i64 r.2)],[])
noncomputable def ledger_Term (p0:GLog) (p1:Int):Option (Int×Int):=
 oB (ledger_Check p0) fun x1=>
 bif (x1==0) then
  bif decide (p1<0) then
   some (0,2)
  else
  bif decide (1048576<p1) then
   some (0,2)
  else
  oB (ledger_term p0 p1) fun (x2,x3)=>
  some (x2,x3)
 else
 some (0,x1)
def K_ledger_Term (C:aj):Prop:=∀(p0:GLog) (p1:Int) (r:Int×Int),ledger_Term p0 p1=some r→C 79 [.agg [.v (.i .i64 p0.fBase),.v (.i .i64 p0.fBaseTerm),.v (.sl 10 (ah GItem.row p0.fItems))],.v (.i .i64 p1)] []=some (.tup [.v (.i .i64 r.1),.v (.i .i64 r.2)],[])
noncomputable def sKItem_Item (p0:List GItem):Option (List GItem):=bif dh p0.length 104 then some p0 else none
def K_sKItem_Item (C:aj):Prop:=∀(p0:List GItem) (r:(List GItem)),sKItem_Item p0=some r→C 101 [.v (.sl 10 (ah GItem.row p0))] []=some (.own 10 (ah GItem.row r),[])
noncomputable def ledger_Trim (p0:GLog) (p1:Int):Option (GLog×Int):=
 oB (ledger_Check p0) fun x1=>
 bif (x1==0) then
  oB (ledger_term p0 p1) fun (x2,x3)=>
  bif (x3==0) then
   bif rngB (IntKind.i64.wrap (p1-p0.fBase)) (p0.fItems.length:Int) (p0.fItems.length:Int) then
    oB (sKItem_Item (dm p0.fItems (IntKind.i64.wrap (p1-p0.fBase)) (p0.fItems.length:Int))) fun x4=>
    some ((GLog.mk p1 x2 x4),0)
   else
   none
  else
  some ((GLog.mk 0 0 []),x3)
 else
 some ((GLog.mk 0 0 []),x1)
def K_ledger_Trim (C:aj):Prop:=∀(p0:GLog) (p1:Int) (r:GLog×Int),ledger_Trim p0 p1=some r→C 80 [.agg [.v (.i .i64 p0.fBase),.v (.i .i64 p0.fBaseTerm),.v (.sl 10 (ah GItem.row p0.fItems))],.v (.i .i64 p1)] []=some (.tup [.agg [.v (.i .i64 r.1.fBase),.v (.i .i64 r.1.fBaseTerm),.v (.sl 10 (ah GItem.row r.1.fItems))],.v (.i .i64 r.2)],[])
noncomputable def tape_rest (p0:GLog) (p1:GSnap):Option GLog:=
 oB (ledger_Term p0 p1.fIndex) fun (x1,x2)=>
 bif (x2==0) then
  bif (x1==p1.fTerm) then
   oB (ledger_Trim p0 p1.fIndex) fun (x3,x4)=>
   some x3
  else
  some (GLog.mk p1.fIndex p1.fTerm [])
 else
 some (GLog.mk p1.fIndex p1.fTerm [])
def K_tape_rest (C:aj):Prop:=∀(p0:GLog) (p1:GSnap) (r:GLog),tape_rest p0 p1=some r→C 54 [.agg [.v (.i .i64 p0.fBase),.v (.i .i64 p0.fBaseTerm),.v (.sl 10 (ah GItem.row p0.fItems))],.agg [.v (.i .i64 p1.fIndex),.v (.i .i64 p1.fTerm),.v (.i .i64 p1.fMachine.fStore.fNow),.v (.sl 8 (ah GEntry.row p1.fMachine.fStore.fEntries)),.v (.i .i64 p1.fMachine.fNext),.v (.sl 7 (ah GClient.row p1.fMachine.fClients))]] []=some (.agg [.v (.i .i64 r.fBase),.v (.i .i64 r.fBaseTerm),.v (.sl 10 (ah GItem.row r.fItems))],[])
noncomputable def tape_Rest (p0:GLog) (p1:GSnap):Option (GLog×Int):=
 oB (ledger_Check p0) fun x1=>
 bif (x1==0) then
  oB (tape_CheckSnap p1) fun x2=>
  bif (x2==0) then
   oB (tape_rest p0 p1) fun x3=>
   some (x3,0)
  else
  some ((GLog.mk 0 0 []),x2)
 else
 some ((GLog.mk 0 0 []),x1)
def K_tape_Rest (C:aj):Prop:=∀(p0:GLog) (p1:GSnap) (r:GLog×Int),tape_Rest p0 p1=some r→C 14 [.agg [.v (.i .i64 p0.fBase),.v (.i .i64 p0.fBaseTerm),.v (.sl 10 (ah GItem.row p0.fItems))],.agg [.v (.i .i64 p1.fIndex),.v (.i .i64 p1.fTerm),.v (.i .i64 p1.fMachine.fStore.fNow),.v (.sl 8 (ah GEntry.row p1.fMachine.fStore.fEntries)),.v (.i .i64 p1.fMachine.fNext),.v (.sl 7 (ah GClient.row p1.fMachine.fClients))]] []=some (.tup [.agg [.v (.i .i64 r.1.fBase),.v (.i .i64 r.1.fBaseTerm),.v (.sl 10 (ah GItem.row r.1.fItems))],.v (.i .i64 r.2)],[])
noncomputable def rrIn (p0:Int) (p1:Int) (p2:Int):Option Bool:=
 bif decide (p1≤p0) then
  some (decide (p0≤p2))
 else
 some false
noncomputable def rrIn_v (p0:Int) (p1:Int) (p2:Int):Bool:=(decide (p1≤p0)&&decide (p0≤p2))
theorem rrIn_t (p0:Int) (p1:Int) (p2:Int):rrIn p0 p1 p2=some (rrIn_v p0 p1 p2):=by
 simp only [rrIn,rrIn_v]
 cases decide (p1≤p0)<;>rfl
def K_rrIn (C:aj):Prop:=∀(p0:Int) (p1:Int) (p2:Int) (r:Bool),rrIn p0 p1 p2=some r→C 48 [.v (.i .i64 p0),.v (.i .i64 p1),.v (.i .i64 p2)] []=some (.v (.b r),[])
noncomputable def rrnumberMay (p0:Int):Option Bool:=
 some (decide (1≤p0)&&decide (p0≤1048576))
noncomputable def rrnumberMay_v (p0:Int):Bool:=(decide (1≤p0)&&decide (p0≤1048576))
theorem rrnumberMay_t (p0:Int):rrnumberMay p0=some (rrnumberMay_v p0):=by
 simp only [rrnumberMay,rrnumberMay_v]
def K_rrnumberMay (C:aj):Prop:=∀(p0:Int) (r:Bool),rrnumberMay p0=some r→C 51 [.v (.i .i64 p0)] []=some (.v (.b r),[])
noncomputable def rrfieldMay (p0:ByteArray):Option Bool:=
 some (decide (1≤(p0.size:Int))&&decide ((p0.size:Int)≤12))
noncomputable def rrfieldMay_v (p0:ByteArray):Bool:=(decide (1≤(p0.size:Int))&&decide ((p0.size:Int)≤12))
theorem rrfieldMay_t (p0:ByteArray):rrfieldMay p0=some (rrfieldMay_v p0):=by
 simp only [rrfieldMay,rrfieldMay_v]
def K_rrfieldMay (C:aj):Prop:=∀(p0:ByteArray) (r:Bool),rrfieldMay p0=some r→C 93 [.v (.s p0)] []=some (.v (.b r),[])
noncomputable def rrtextMay (p0:ByteArray):Option Bool:=
 some (decide ((p0.size:Int)≤20))
noncomputable def rrtextMay_v (p0:ByteArray):Bool:=decide ((p0.size:Int)≤20)
theorem rrtextMay_t (p0:ByteArray):rrtextMay p0=some (rrtextMay_v p0):=by
 simp only [rrtextMay,rrtextMay_v]
def K_rrtextMay (C:aj):Prop:=∀(p0:ByteArray) (r:Bool),rrtextMay p0=some r→C 95 [.v (.s p0)] []=some (.v (.b r),[])
noncomputable def rrcountMay (p0:Int):Option Bool:=
 some (decide ((-1099511627776)≤p0)&&decide (p0≤1099511627776))
noncomputable def rrcountMay_v (p0:Int):Bool:=(decide ((-1099511627776)≤p0)&&decide (p0≤1099511627776))
theorem rrcountMay_t (p0:Int):rrcountMay p0=some (rrcountMay_v p0):=by
 simp only [rrcountMay,rrcountMay_v]
def K_rrcountMay (C:aj):Prop:=∀(p0:Int) (r:Bool),rrcountMay p0=some r→C 96 [.v (.i .i64 p0)] []=some (.v (.b r),[])
noncomputable def ck_rrCommandFault_k3_v (p0:GCommand):Bool:=
 bif (p0.fKind==1) then
  true
 else
 bif (p0.fKind==4) then
  true
 else
 bif (p0.fKind==7) then
  true
 else
 bif (p0.fKind==8) then
  true
 else
 (decide (11≤p0.fKind)&&decide (p0.fKind≤16))
noncomputable def ck_rrCommandFault_k5_v (p0:GCommand) (p1:Bool) (p2:Bool):Bool:=
 bif (p0.fKind==3) then
  true
 else
 bif (p0.fKind==14) then
  true
 else
 (p0.fKind==20)
noncomputable def ck_rrCommandFault_k7_v_c0 (p0:GCommand) (p1:Bool) (p2:Bool) (p3:Bool) (p4:Bool):Bool:=
 bif cY p0.fField ByteArray.empty then
  bif p3 then
   bif p4 then
    false
   else
   (!cY p0.fKey ByteArray.empty)
  else
  bif (p0.fN==0) then
   bif p4 then
    false
   else
   (!cY p0.fKey ByteArray.empty)
  else
  true
 else
 true
noncomputable def ck_rrCommandFault_k7_v_c1 (p0:GCommand) (p1:Bool) (p2:Bool) (p3:Bool) (p4:Bool):Bool:=
 bif cY p0.fField ByteArray.empty then
  bif p3 then
   bif p4 then
    false
   else
   (!cY p0.fKey ByteArray.empty)
  else
  bif (p0.fN==0) then
   bif p4 then
    false
   else
   (!cY p0.fKey ByteArray.empty)
  else
  true
 else
 true
noncomputable def ck_rrCommandFault_k7_v_c2 (p0:GCommand) (p1:Bool) (p2:Bool) (p3:Bool) (p4:Bool):Bool:=
 bif cY p0.fText ByteArray.empty then
  bif p2 then
   bif p3 then
    bif p4 then
     false
    else
    (!cY p0.fKey ByteArray.empty)
   else
   bif (p0.fN==0) then
    bif p4 then
     false
    else
    (!cY p0.fKey ByteArray.empty)
   else
   true
  else
  ck_rrCommandFault_k7_v_c1 p0 p1 p2 p3 p4
 else
 true
noncomputable def ck_rrCommandFault_k7_v (p0:GCommand) (p1:Bool) (p2:Bool) (p3:Bool) (p4:Bool):Bool:=
 bif p1 then
  bif p2 then
   bif p3 then
    bif p4 then
     false
    else
    (!cY p0.fKey ByteArray.empty)
   else
   bif (p0.fN==0) then
    bif p4 then
     false
    else
    (!cY p0.fKey ByteArray.empty)
   else
   true
  else
  ck_rrCommandFault_k7_v_c0 p0 p1 p2 p3 p4
 else
 ck_rrCommandFault_k7_v_c2 p0 p1 p2 p3 p4
noncomputable def ck_rrCommandFault_k9_v (p0:GCommand) (p1:Bool) (p2:Bool):Bool:=
 bif p2 then
  bif (rrfieldMay_v p0.fKey) then
   bif p1 then
    bif (rrfieldMay_v p0.fField) then
     (!(rrtextMay_v p0.fText))
    else
    true
   else
   (!(rrtextMay_v p0.fText))
  else
  true
 else
 bif p1 then
  bif (rrfieldMay_v p0.fField) then
   (!(rrtextMay_v p0.fText))
  else
  true
 else
 (!(rrtextMay_v p0.fText))
noncomputable def rrCommandFault_v (p0:GCommand):Int:=
 bif decide (1≤p0.fKind) then
  bif decide (p0.fKind≤22) then
   bif (ck_rrCommandFault_k7_v p0 (ck_rrCommandFault_k3_v p0) (decide (4≤p0.fKind)&&decide (p0.fKind≤6)) (ck_rrCommandFault_k5_v p0 (ck_rrCommandFault_k3_v p0) (decide (4≤p0.fKind)&&decide (p0.fKind≤6))) (!(p0.fKind==22))) then
    8
   else
   bif (ck_rrCommandFault_k9_v p0 (decide (4≤p0.fKind)&&decide (p0.fKind≤6)) (!(p0.fKind==22))) then
    1
   else
   bif (rrcountMay_v p0.fN) then
    0
   else
   2
  else
  3
 else
 3
noncomputable def rrCommandFault (p0:GCommand):Option Int:=some (rrCommandFault_v p0)
theorem rrCommandFault_t (p0:GCommand):rrCommandFault p0=some (rrCommandFault_v p0):=rfl
def K_rrCommandFault (C:aj):Prop:=∀(p0:GCommand) (r:Int),rrCommandFault p0=some r→C 99 [.agg [.v (.i .i64 p0.fKind),.v (.s p0.fKey),.v (.s p0.fField),.v (.s p0.fText),.v (.i .i64 p0.fN)]] []=some (.v (.i .i64 r),[])
noncomputable def rrCallFault_v_c0 (p0:GCall):Int:=
 bif (p0.fSeq==0) then
  bif (p0.fCommand.fKind==0) then
   bif cY p0.fCommand.fKey ByteArray.empty then
    bif cY p0.fCommand.fField ByteArray.empty then
     bif cY p0.fCommand.fText ByteArray.empty then
      bif (p0.fCommand.fN==0) then
       0
      else
      8
     else
     8
    else
    8
   else
   8
  else
  8
 else
 8
noncomputable def rrCallFault_v (p0:GCall):Int:=
 bif (p0.fClient==0) then
  rrCallFault_v_c0 p0
 else
 bif (rrnumberMay_v p0.fClient) then
  bif (rrnumberMay_v p0.fSeq) then
   (rrCommandFault_v p0.fCommand)
  else
  2
 else
 2
noncomputable def rrCallFault (p0:GCall):Option Int:=some (rrCallFault_v p0)
theorem rrCallFault_t (p0:GCall):rrCallFault p0=some (rrCallFault_v p0):=rfl
def K_rrCallFault (C:aj):Prop:=∀(p0:GCall) (r:Int),rrCallFault p0=some r→C 78 [.agg [.v (.i .i64 p0.fClient),.v (.i .i64 p0.fSeq),.v (.i .i64 p0.fCommand.fKind),.v (.s p0.fCommand.fKey),.v (.s p0.fCommand.fField),.v (.s p0.fCommand.fText),.v (.i .i64 p0.fCommand.fN)]] []=some (.v (.i .i64 r),[])
noncomputable def rrItemFault_v_c0 (p0:GItem):Int:=
 bif (p0.fCall.fClient==0) then
  bif (p0.fCall.fSeq==0) then
   bif (p0.fCall.fCommand.fKind==0) then
    bif cY p0.fCall.fCommand.fKey ByteArray.empty then
     bif cY p0.fCall.fCommand.fField ByteArray.empty then
      bif cY p0.fCall.fCommand.fText ByteArray.empty then
       bif (p0.fCall.fCommand.fN==0) then
        0
       else
       8
      else
      8
     else
     8
    else
    8
   else
   8
  else
  8
 else
 8
noncomputable def rrItemFault_v (p0:GItem):Int:=
 bif (rrnumberMay_v p0.fTerm) then
  bif decide (0≤p0.fTime) then
   bif decide (p0.fTime≤1073741824) then
    bif p0.fNop then
     rrItemFault_v_c0 p0
    else
    (rrCallFault_v p0.fCall)
   else
   2
  else
  2
 else
 2
noncomputable def rrItemFault (p0:GItem):Option Int:=some (rrItemFault_v p0)
theorem rrItemFault_t (p0:GItem):rrItemFault p0=some (rrItemFault_v p0):=rfl
def K_rrItemFault (C:aj):Prop:=∀(p0:GItem) (r:Int),rrItemFault p0=some r→C 52 [.agg [.v (.i .i64 p0.fTerm),.v (.i .i64 p0.fTime),.v (.b p0.fNop),.v (.i .i64 p0.fCall.fClient),.v (.i .i64 p0.fCall.fSeq),.v (.i .i64 p0.fCall.fCommand.fKind),.v (.s p0.fCall.fCommand.fKey),.v (.s p0.fCall.fCommand.fField),.v (.s p0.fCall.fCommand.fText),.v (.i .i64 p0.fCall.fCommand.fN)]] []=some (.v (.i .i64 r),[])
noncomputable def ck_rrLogFault_k1_v_c0 (p0:GLog):Bool:=
 bif decide (0≤p0.fBaseTerm) then
  bif decide (p0.fBaseTerm≤1048576) then
   bif (p0.fBase==0) then
    bif (p0.fBaseTerm==0) then
     bif decide (200<(p0.fItems.length:Int)) then
      true
     else
     decide (1048576<(IntKind.i64.wrap (p0.fBase+(p0.fItems.length:Int))))
    else
    true
   else
   bif (p0.fBaseTerm==0) then
    true
   else
   bif decide (200<(p0.fItems.length:Int)) then
    true
   else
   decide (1048576<(IntKind.i64.wrap (p0.fBase+(p0.fItems.length:Int))))
  else
  true
 else
 true
noncomputable def ck_rrLogFault_k1_v (p0:GLog):Bool:=
 bif decide (0≤p0.fBase) then
  bif decide (p0.fBase≤1048576) then
   ck_rrLogFault_k1_v_c0 p0
  else
  true
 else
 true
noncomputable def st_rrLogFault_0_c0 (p0:GLog) (p1:Int):Option (Int⊕(Unit⊕Unit)):=
 oB (idx p0.fItems p1) fun x1=>
 bif ((rrItemFault_v x1)==0) then
  bif decide (x1.fTerm<p0.fBaseTerm) then
   some (.inr (.inl ()))
  else
  bif decide (0<p1) then
   oB (idx p0.fItems (IntKind.i64.wrap (p1-1))) fun x2=>
   bif decide (x1.fTerm<x2.fTerm) then
    some (.inr (.inl ()))
   else
   bif decide (x1.fTime<x2.fTime) then
    some (.inr (.inl ()))
   else
   some (.inl (IntKind.i64.wrap (p1+1)))
  else
  some (.inl (IntKind.i64.wrap (p1+1)))
 else
 some (.inr (.inl ()))
noncomputable def st_rrLogFault_0 (p0:GLog) (s:Int):Option (Int⊕(Unit⊕Unit)):=
 match s with
 |p1=>
  bif decide (p1<(p0.fItems.length:Int)) then
   st_rrLogFault_0_c0 p0 p1
  else
  some (.inr (.inr ()))
noncomputable def rrLogFault (p0:GLog):Option Int:=
 bif (ck_rrLogFault_k1_v p0) then
  some 13
 else
 oB (cM (st_rrLogFault_0 p0) 0) fun
 | .inl _=>
  some 13
 | .inr _=>
  some 0
def K_rrLogFault (C:aj):Prop:=∀(p0:GLog) (r:Int),rrLogFault p0=some r→C 56 [.agg [.v (.i .i64 p0.fBase),.v (.i .i64 p0.fBaseTerm),.v (.sl 10 (ah GItem.row p0.fItems))]] []=some (.v (.i .i64 r),[])
noncomputable def rrsizeOf_v (p0:GValue):Int:=
 (IntKind.i64.wrap ((IntKind.i64.wrap ((p0.fPairs.length:Int)+(p0.fItems.length:Int)))+(p0.fScores.length:Int)))
noncomputable def rrsizeOf (p0:GValue):Option Int:=some (rrsizeOf_v p0)
theorem rrsizeOf_t (p0:GValue):rrsizeOf p0=some (rrsizeOf_v p0):=rfl
def K_rrsizeOf (C:aj):Prop:=∀(p0:GValue) (r:Int),rrsizeOf p0=some r→C 132 [.agg [.v (.i .i64 p0.fKind),.v (.s p0.fText),.v (.i .i64 p0.fCount),.v (.sl 2 (ah GPair.row p0.fPairs)),.v (.sl 1 (ah bY p0.fItems)),.v (.sl 2 (ah GScore.row p0.fScores))]] []=some (.v (.i .i64 r),[])
noncomputable def rrscoreAhead (p0:GScore) (p1:GScore):Option Bool:=
 bif (p0.fN==p1.fN) then
  some (sltB p0.fMember p1.fMember)
 else
 some (decide (p0.fN<p1.fN))
noncomputable def rrscoreAhead_v (p0:GScore) (p1:GScore):Bool:=(bif (p0.fN==p1.fN) then sltB p0.fMember p1.fMember else decide (p0.fN<p1.fN))
theorem rrscoreAhead_t (p0:GScore) (p1:GScore):rrscoreAhead p0 p1=some (rrscoreAhead_v p0 p1):=by
 simp only [rrscoreAhead,rrscoreAhead_v]
 cases (p0.fN==p1.fN)<;>rfl
def K_rrscoreAhead (C:aj):Prop:=∀(p0:GScore) (p1:GScore) (r:Bool),rrscoreAhead p0 p1=some r→C 133 [.agg [.v (.s p0.fMember),.v (.i .i64 p0.fN)],.agg [.v (.s p1.fMember),.v (.i .i64 p1.fN)]] []=some (.v (.b r),[])
noncomputable def st_rrmemberAt_0 (p0:List GScore) (p1:ByteArray) (s:Int):Option (Int⊕(Int⊕Unit)):=
 match s with
 |p2=>
  bif decide (p2<(p0.length:Int)) then
   oB (idx p0 p2) fun x1=>
   bif cY x1.fMember p1 then
    some (.inr (.inl p2))
   else
   some (.inl (IntKind.i64.wrap (p2+1)))
  else
  some (.inr (.inr ()))
noncomputable def rrmemberAt (p0:List GScore) (p1:ByteArray):Option Int:=
 oB (cM (st_rrmemberAt_0 p0 p1) 0) fun
 | .inl x1=>
  some x1
 | .inr _=>
  some (-1)
def K_rrmemberAt (C:aj):Prop:=∀(p0:List GScore) (p1:ByteArray) (r:Int),rrmemberAt p0 p1=some r→C 134 [.v (.sl 2 (ah GScore.row p0)),.v (.s p1)] []=some (.v (.i .i64 r),[])
noncomputable def ck_rrValueFault_k4_v_c0 (p0:GValue):Bool:=
 bif (p0.fCount==0) then
  bif (p0.fKind==3) then
   bif (p0.fKind==6) then
    false
   else
   decide (0<(p0.fScores.length:Int))
  else
  bif decide (0<(p0.fPairs.length:Int)) then
   true
  else
  bif (p0.fKind==6) then
   false
  else
  decide (0<(p0.fScores.length:Int))
 else
 true
noncomputable def ck_rrValueFault_k4_v_c1 (p0:GValue):Bool:=
 bif (p0.fCount==0) then
  bif (p0.fKind==3) then
   bif (p0.fKind==6) then
    false
   else
   decide (0<(p0.fScores.length:Int))
  else
  bif decide (0<(p0.fPairs.length:Int)) then
   true
  else
  bif (p0.fKind==6) then
   false
  else
  decide (0<(p0.fScores.length:Int))
 else
 true
noncomputable def ck_rrValueFault_k4_v_c2 (p0:GValue):Bool:=
 bif cY p0.fText ByteArray.empty then
  bif (p0.fKind==2) then
   bif (p0.fKind==3) then
    bif (p0.fKind==6) then
     false
    else
    decide (0<(p0.fScores.length:Int))
   else
   bif decide (0<(p0.fPairs.length:Int)) then
    true
   else
   bif (p0.fKind==6) then
    false
   else
   decide (0<(p0.fScores.length:Int))
  else
  ck_rrValueFault_k4_v_c1 p0
 else
 true
noncomputable def ck_rrValueFault_k4_v (p0:GValue):Bool:=
 bif (p0.fKind==1) then
  bif (p0.fKind==2) then
   bif (p0.fKind==3) then
    bif (p0.fKind==6) then
     false
    else
    decide (0<(p0.fScores.length:Int))
   else
   bif decide (0<(p0.fPairs.length:Int)) then
    true
   else
   bif (p0.fKind==6) then
    false
   else
   decide (0<(p0.fScores.length:Int))
  else
  ck_rrValueFault_k4_v_c0 p0
 else
 ck_rrValueFault_k4_v_c2 p0
noncomputable def ck_rrValueFault_k6_v (p0:GValue):Bool:=
 bif decide (3≤p0.fKind) then
  bif decide (1≤(rrsizeOf_v p0)) then
   bif decide ((rrsizeOf_v p0)≤20) then
    (!(rrtextMay_v p0.fText))
   else
   true
  else
  true
 else
 (!(rrtextMay_v p0.fText))
noncomputable def st_rrValueFault_0 (p0:GValue) (s:Int):Option (Int⊕(Unit⊕Unit)):=
 match s with
 |p1=>
  bif decide (p1<(p0.fItems.length:Int)) then
   oB (idx p0.fItems p1) fun x1=>
   bif (rrtextMay_v x1) then
    some (.inl (IntKind.i64.wrap (p1+1)))
   else
   some (.inr (.inl ()))
  else
  some (.inr (.inr ()))
noncomputable def st_rrValueFault_2 (p0:GValue) (s:Int):Option (Int⊕(Unit⊕Unit)):=
 match s with
 |p1=>
  bif decide (p1<(p0.fPairs.length:Int)) then
   oB (idx p0.fPairs p1) fun x1=>
   bif (rrfieldMay_v x1.fField) then
    bif (rrtextMay_v x1.fText) then
     some (.inl (IntKind.i64.wrap (p1+1)))
    else
    some (.inr (.inl ()))
   else
   some (.inr (.inl ()))
  else
  some (.inr (.inr ()))
noncomputable def st_rrValueFault_4 (p0:GValue) (s:Int):Option (Int⊕(Unit⊕Unit)):=
 match s with
 |p1=>
  bif decide (p1<(p0.fScores.length:Int)) then
   oB (idx p0.fScores p1) fun x1=>
   bif (rrtextMay_v x1.fMember) then
    some (.inl (IntKind.i64.wrap (p1+1)))
   else
   some (.inr (.inl ()))
  else
  some (.inr (.inr ()))
noncomputable def st_rrValueFault_6 (p0:GValue) (s:Int):Option (Int⊕(Unit⊕Unit)):=
 match s with
 |p1=>
  bif decide (p1<(p0.fScores.length:Int)) then
   oB (idx p0.fScores p1) fun x1=>
   bif (rrcountMay_v x1.fN) then
    some (.inl (IntKind.i64.wrap (p1+1)))
   else
   some (.inr (.inl ()))
  else
  some (.inr (.inr ()))
noncomputable def st_rrValueFault_8 (p0:GValue) (s:Int):Option (Int⊕(Unit⊕Unit)):=
 match s with
 |p1=>
  bif decide (p1<(p0.fPairs.length:Int)) then
   oB (idx p0.fPairs (IntKind.i64.wrap (p1-1))) fun x1=>
   oB (idx p0.fPairs p1) fun x2=>
   bif sltB x1.fField x2.fField then
    some (.inl (IntKind.i64.wrap (p1+1)))
   else
   some (.inr (.inl ()))
  else
  some (.inr (.inr ()))
noncomputable def st_rrValueFault_10 (p0:GValue) (s:Int):Option (Int⊕(Unit⊕Unit)):=
 match s with
 |p1=>
  bif decide (p1<(p0.fItems.length:Int)) then
   bif (p0.fKind==5) then
    oB (idx p0.fItems (IntKind.i64.wrap (p1-1))) fun x1=>
    oB (idx p0.fItems p1) fun x2=>
    bif sltB x1 x2 then
     some (.inl (IntKind.i64.wrap (p1+1)))
    else
    some (.inr (.inl ()))
   else
   some (.inr (.inr ()))
  else
  some (.inr (.inr ()))
noncomputable def st_rrValueFault_12 (p0:GValue) (s:Int):Option (Int⊕(Unit⊕Unit)):=
 match s with
 |p1=>
  bif decide (p1<(p0.fScores.length:Int)) then
   oB (idx p0.fScores (IntKind.i64.wrap (p1-1))) fun x1=>
   oB (idx p0.fScores p1) fun x2=>
   bif (rrscoreAhead_v x1 x2) then
    bif rngB 0 p1 (p0.fScores.length:Int) then
     oB (rrmemberAt (dm p0.fScores 0 p1) x2.fMember) fun x3=>
     bif decide (0≤x3) then
      some (.inr (.inl ()))
     else
     some (.inl (IntKind.i64.wrap (p1+1)))
    else
    none
   else
   some (.inr (.inl ()))
  else
  some (.inr (.inr ()))
noncomputable def ck_rrValueFault_k4v2_v_c0 (p0:GValue) (p1:Bool):Bool:=
 bif decide (0<(p0.fPairs.length:Int)) then
  true
 else
 bif p1 then
  bif (p0.fKind==6) then
   false
  else
  decide (0<(p0.fScores.length:Int))
 else
 bif decide (0<(p0.fItems.length:Int)) then
  true
 else
 bif (p0.fKind==6) then
  false
 else
 decide (0<(p0.fScores.length:Int))
noncomputable def ck_rrValueFault_k4v2_v_c1 (p0:GValue) (p1:Bool):Bool:=
 bif decide (0<(p0.fPairs.length:Int)) then
  true
 else
 bif p1 then
  bif (p0.fKind==6) then
   false
  else
  decide (0<(p0.fScores.length:Int))
 else
 bif decide (0<(p0.fItems.length:Int)) then
  true
 else
 bif (p0.fKind==6) then
  false
 else
 decide (0<(p0.fScores.length:Int))
noncomputable def ck_rrValueFault_k4v2_v_c2 (p0:GValue) (p1:Bool):Bool:=
 bif (p0.fCount==0) then
  bif (p0.fKind==3) then
   bif p1 then
    bif (p0.fKind==6) then
     false
    else
    decide (0<(p0.fScores.length:Int))
   else
   bif decide (0<(p0.fItems.length:Int)) then
    true
   else
   bif (p0.fKind==6) then
    false
   else
   decide (0<(p0.fScores.length:Int))
  else
  ck_rrValueFault_k4v2_v_c1 p0 p1
 else
 true
noncomputable def ck_rrValueFault_k4v2_v_c3 (p0:GValue) (p1:Bool):Bool:=
 bif decide (0<(p0.fPairs.length:Int)) then
  true
 else
 bif p1 then
  bif (p0.fKind==6) then
   false
  else
  decide (0<(p0.fScores.length:Int))
 else
 bif decide (0<(p0.fItems.length:Int)) then
  true
 else
 bif (p0.fKind==6) then
  false
 else
 decide (0<(p0.fScores.length:Int))
noncomputable def ck_rrValueFault_k4v2_v_c4 (p0:GValue) (p1:Bool):Bool:=
 bif decide (0<(p0.fPairs.length:Int)) then
  true
 else
 bif p1 then
  bif (p0.fKind==6) then
   false
  else
  decide (0<(p0.fScores.length:Int))
 else
 bif decide (0<(p0.fItems.length:Int)) then
  true
 else
 bif (p0.fKind==6) then
  false
 else
 decide (0<(p0.fScores.length:Int))
noncomputable def ck_rrValueFault_k4v2_v_c5 (p0:GValue) (p1:Bool):Bool:=
 bif (p0.fCount==0) then
  bif (p0.fKind==3) then
   bif p1 then
    bif (p0.fKind==6) then
     false
    else
    decide (0<(p0.fScores.length:Int))
   else
   bif decide (0<(p0.fItems.length:Int)) then
    true
   else
   bif (p0.fKind==6) then
    false
   else
   decide (0<(p0.fScores.length:Int))
  else
  ck_rrValueFault_k4v2_v_c4 p0 p1
 else
 true
noncomputable def ck_rrValueFault_k4v2_v_c6 (p0:GValue) (p1:Bool):Bool:=
 bif cY p0.fText ByteArray.empty then
  bif (p0.fKind==2) then
   bif (p0.fKind==3) then
    bif p1 then
     bif (p0.fKind==6) then
      false
     else
     decide (0<(p0.fScores.length:Int))
    else
    bif decide (0<(p0.fItems.length:Int)) then
     true
    else
    bif (p0.fKind==6) then
     false
    else
    decide (0<(p0.fScores.length:Int))
   else
   ck_rrValueFault_k4v2_v_c3 p0 p1
  else
  ck_rrValueFault_k4v2_v_c5 p0 p1
 else
 true
noncomputable def ck_rrValueFault_k4v2_v (p0:GValue) (p1:Bool):Bool:=
 bif (p0.fKind==1) then
  bif (p0.fKind==2) then
   bif (p0.fKind==3) then
    bif p1 then
     bif (p0.fKind==6) then
      false
     else
     decide (0<(p0.fScores.length:Int))
    else
    bif decide (0<(p0.fItems.length:Int)) then
     true
    else
    bif (p0.fKind==6) then
     false
    else
    decide (0<(p0.fScores.length:Int))
   else
   ck_rrValueFault_k4v2_v_c0 p0 p1
  else
  ck_rrValueFault_k4v2_v_c2 p0 p1
 else
 ck_rrValueFault_k4v2_v_c6 p0 p1
noncomputable def rrValueFault_c0 (p0:GValue):Option Int:=
 oB (cM (st_rrValueFault_12 p0) 1) fun
 | .inl _=>
  some 10
 | .inr _=>
  some 0
noncomputable def rrValueFault_c1 (p0:GValue):Option Int:=
 oB (cM (st_rrValueFault_10 p0) 1) fun
 | .inl _=>
  some 10
 | .inr _=>
  rrValueFault_c0 p0
noncomputable def rrValueFault_c2 (p0:GValue):Option Int:=
 oB (cM (st_rrValueFault_8 p0) 1) fun
 | .inl _=>
  some 10
 | .inr _=>
  rrValueFault_c1 p0
noncomputable def rrValueFault_c3 (p0:GValue):Option Int:=
 bif (rrcountMay_v p0.fCount) then
  oB (cM (st_rrValueFault_6 p0) 0) fun
  | .inl _=>
   some 2
  | .inr _=>
   rrValueFault_c2 p0
 else
 some 2
noncomputable def rrValueFault_c4 (p0:GValue):Option Int:=
 oB (cM (st_rrValueFault_4 p0) 0) fun
 | .inl _=>
  some 1
 | .inr _=>
  rrValueFault_c3 p0
noncomputable def rrValueFault_c5 (p0:GValue):Option Int:=
 oB (cM (st_rrValueFault_2 p0) 0) fun
 | .inl _=>
  some 1
 | .inr _=>
  rrValueFault_c4 p0
noncomputable def rrValueFault_c6 (p0:GValue):Option Int:=
 oB (cM (st_rrValueFault_12 p0) 1) fun
 | .inl _=>
  some 10
 | .inr _=>
  some 0
noncomputable def rrValueFault_c7 (p0:GValue):Option Int:=
 oB (cM (st_rrValueFault_10 p0) 1) fun
 | .inl _=>
  some 10
 | .inr _=>
  rrValueFault_c6 p0
noncomputable def rrValueFault_c8 (p0:GValue):Option Int:=
 oB (cM (st_rrValueFault_8 p0) 1) fun
 | .inl _=>
  some 10
 | .inr _=>
  rrValueFault_c7 p0
noncomputable def rrValueFault_c9 (p0:GValue):Option Int:=
 bif (rrcountMay_v p0.fCount) then
  oB (cM (st_rrValueFault_6 p0) 0) fun
  | .inl _=>
   some 2
  | .inr _=>
   rrValueFault_c8 p0
 else
 some 2
noncomputable def rrValueFault_c10 (p0:GValue):Option Int:=
 oB (cM (st_rrValueFault_4 p0) 0) fun
 | .inl _=>
  some 1
 | .inr _=>
  rrValueFault_c9 p0
noncomputable def rrValueFault_c11 (p0:GValue):Option Int:=
 oB (cM (st_rrValueFault_2 p0) 0) fun
 | .inl _=>
  some 1
 | .inr _=>
  rrValueFault_c10 p0
noncomputable def rrValueFault_c12 (p0:GValue):Option Int:=
 bif (ck_rrValueFault_k4_v p0) then
  some 8
 else
 bif (ck_rrValueFault_k6_v p0) then
  some 1
 else
 oB (cM (st_rrValueFault_0 p0) 0) fun
 | .inl _=>
  some 1
 | .inr _=>
  rrValueFault_c5 p0
noncomputable def rrValueFault (p0:GValue):Option Int:=
 bif decide (1≤p0.fKind) then
  bif decide (p0.fKind≤6) then
   bif (p0.fKind==4) then
    rrValueFault_c12 p0
   else
   bif (ck_rrValueFault_k4v2_v p0 (p0.fKind==5)) then
    some 8
   else
   bif (ck_rrValueFault_k6_v p0) then
    some 1
   else
   oB (cM (st_rrValueFault_0 p0) 0) fun
   | .inl _=>
    some 1
   | .inr _=>
    rrValueFault_c11 p0
  else
  some 3
 else
 some 3
def K_rrValueFault (C:aj):Prop:=∀(p0:GValue) (r:Int),rrValueFault p0=some r→C 94 [.agg [.v (.i .i64 p0.fKind),.v (.s p0.fText),.v (.i .i64 p0.fCount),.v (.sl 2 (ah GPair.row p0.fPairs)),.v (.sl 1 (ah bY p0.fItems)),.v (.sl 2 (ah GScore.row p0.fScores))]] []=some (.v (.i .i64 r),[])
noncomputable def ck_rrStoreFault_k1_v (p0:GStore):Bool:=
 bif decide (0≤p0.fNow) then
  bif decide (p0.fNow≤1073741824) then
   decide (12<(p0.fEntries.length:Int))
  else
  true
 else
 true
noncomputable def ck_rrStoreFault_k7v2 (p0:GStore) (p1:Int) (p2:GEntry):Option Bool:=
 bif (rrfieldMay_v p2.fKey) then
  oB (rrValueFault p2.fValue) fun x1=>
  bif (x1==0) then
   bif decide (0<p1) then
    oB (idx p0.fEntries (IntKind.i64.wrap (p1-1))) fun x2=>
    some (!sltB x2.fKey p2.fKey)
   else
   some false
  else
  some true
 else
 some true
noncomputable def ck_rrStoreFault_k9v2_v (p0:GStore) (p1:Int) (p2:GEntry):Bool:=
 bif (p2.fUntil==0) then
  false
 else
 bif decide (0≤p2.fUntil) then
  bif decide (p2.fUntil≤1073741824) then
   decide (p2.fUntil≤p0.fNow)
  else
  true
 else
 true
noncomputable def st_rrStoreFault_0 (p0:GStore) (s:Int):Option (Int⊕(GEntry⊕Unit)):=
 match s with
 |p1=>
  bif decide (p1<(p0.fEntries.length:Int)) then
   oB (idx p0.fEntries p1) fun x1=>
   oB (ck_rrStoreFault_k7v2 p0 p1 x1) fun x2=>
   bif x2 then
    some (.inr (.inl x1))
   else
   bif (ck_rrStoreFault_k9v2_v p0 p1 x1) then
    some (.inr (.inl x1))
   else
   some (.inl (IntKind.i64.wrap (p1+1)))
  else
  some (.inr (.inr ()))
noncomputable def rrStoreFault (p0:GStore):Option Int:=
 bif (ck_rrStoreFault_k1_v p0) then
  some 13
 else
 oB (cM (st_rrStoreFault_0 p0) 0) fun
 | .inl x1=>
  some 13
 | .inr _=>
  some 0
def K_rrStoreFault (C:aj):Prop:=∀(p0:GStore) (r:Int),rrStoreFault p0=some r→C 73 [.agg [.v (.i .i64 p0.fNow),.v (.sl 8 (ah GEntry.row p0.fEntries))]] []=some (.v (.i .i64 r),[])
noncomputable def st_rrReplyFault_0 (p0:GReply) (s:Int):Option (Int⊕(Unit⊕Unit)):=
 match s with
 |p1=>
  bif decide (p1<(p0.fList.length:Int)) then
   oB (idx p0.fList p1) fun x1=>
   bif (rrtextMay_v x1) then
    some (.inl (IntKind.i64.wrap (p1+1)))
   else
   some (.inr (.inl ()))
  else
  some (.inr (.inr ()))
noncomputable def rrReplyFault (p0:GReply):Option Int:=
 bif decide (0≤p0.fCode) then
  bif decide (p0.fCode≤13) then
   bif (rrtextMay_v p0.fText) then
    bif decide (20<(p0.fList.length:Int)) then
     some 1
    else
    oB (cM (st_rrReplyFault_0 p0) 0) fun
    | .inl _=>
     some 1
    | .inr _=>
     bif (rrcountMay_v p0.fN) then
      some 0
     else
     some 2
   else
   some 1
  else
  some 3
 else
 some 3
def K_rrReplyFault (C:aj):Prop:=∀(p0:GReply) (r:Int),rrReplyFault p0=some r→C 74 [.agg [.v (.i .i64 p0.fCode),.v (.s p0.fText),.v (.i .i64 p0.fN),.v (.sl 1 (ah bY p0.fList))]] []=some (.v (.i .i64 r),[])
noncomputable def ck_rrMachineFault_k1 (p0:GMachine):Option Bool:=
 oB (rrStoreFault p0.fStore) fun x1=>
 bif (x1==0) then
  bif decide (1≤p0.fNext) then
   bif decide (p0.fNext≤1048577) then
    some (decide (4<(p0.fClients.length:Int)))
   else
   some true
  else
  some true
 else
 some true
noncomputable def ck_rrMachineFault_k7v2_c0 (p0:GMachine) (p1:Int) (p2:GClient):Option Bool:=
 oB (idx p0.fClients (IntKind.i64.wrap (p1-1))) fun x1=>
 bif decide (p2.fId≤x1.fId) then
  some true
 else
 bif decide (0≤p2.fSeq) then
  bif decide (p2.fSeq≤1048576) then
   bif decide (0≤p2.fTime) then
    bif decide (p2.fTime≤p0.fStore.fNow) then
     oB (rrReplyFault p2.fReply) fun x2=>
     some (!(x2==0))
    else
    some true
   else
   some true
  else
  some true
 else
 some true
noncomputable def ck_rrMachineFault_k7v2_c1 (p0:GMachine) (p1:Int) (p2:GClient):Option Bool:=
 bif decide (p0.fNext≤p2.fId) then
  some true
 else
 bif decide (0<p1) then
  ck_rrMachineFault_k7v2_c0 p0 p1 p2
 else
 bif decide (0≤p2.fSeq) then
  bif decide (p2.fSeq≤1048576) then
   bif decide (0≤p2.fTime) then
    bif decide (p2.fTime≤p0.fStore.fNow) then
     oB (rrReplyFault p2.fReply) fun x1=>
     some (!(x1==0))
    else
    some true
   else
   some true
  else
  some true
 else
 some true
noncomputable def ck_rrMachineFault_k7v2 (p0:GMachine) (p1:Int) (p2:GClient):Option Bool:=
 bif (rrnumberMay_v p2.fId) then
  ck_rrMachineFault_k7v2_c1 p0 p1 p2
 else
 some true
noncomputable def st_rrMachineFault_0 (p0:GMachine) (s:Int):Option (Int⊕(GClient⊕Unit)):=
 match s with
 |p1=>
  bif decide (p1<(p0.fClients.length:Int)) then
   oB (idx p0.fClients p1) fun x1=>
   oB (ck_rrMachineFault_k7v2 p0 p1 x1) fun x2=>
   bif x2 then
    some (.inr (.inl x1))
   else
   some (.inl (IntKind.i64.wrap (p1+1)))
  else
  some (.inr (.inr ()))
noncomputable def rrMachineFault (p0:GMachine):Option Int:=
 oB (ck_rrMachineFault_k1 p0) fun x1=>
 bif x1 then
  some 13
 else
 oB (cM (st_rrMachineFault_0 p0) 0) fun
 | .inl x2=>
  some 13
 | .inr _=>
  some 0
def K_rrMachineFault (C:aj):Prop:=∀(p0:GMachine) (r:Int),rrMachineFault p0=some r→C 41 [.agg [.v (.i .i64 p0.fStore.fNow),.v (.sl 8 (ah GEntry.row p0.fStore.fEntries)),.v (.i .i64 p0.fNext),.v (.sl 7 (ah GClient.row p0.fClients))]] []=some (.v (.i .i64 r),[])
noncomputable def rrSnapFault (p0:GSnap):Option Int:=
 bif (rrnumberMay_v p0.fIndex) then
  bif (rrnumberMay_v p0.fTerm) then
   oB (rrMachineFault p0.fMachine) fun x1=>
   some x1
  else
  some 2
 else
 some 2
def K_rrSnapFault (C:aj):Prop:=∀(p0:GSnap) (r:Int),rrSnapFault p0=some r→C 50 [.agg [.v (.i .i64 p0.fIndex),.v (.i .i64 p0.fTerm),.v (.i .i64 p0.fMachine.fStore.fNow),.v (.sl 8 (ah GEntry.row p0.fMachine.fStore.fEntries)),.v (.i .i64 p0.fMachine.fNext),.v (.sl 7 (ah GClient.row p0.fMachine.fClients))]] []=some (.v (.i .i64 r),[])
noncomputable def rrlastOf_v (p0:GLog):Int:=
 (IntKind.i64.wrap (p0.fBase+(p0.fItems.length:Int)))
noncomputable def rrlastOf (p0:GLog):Option Int:=some (rrlastOf_v p0)
theorem rrlastOf_t (p0:GLog):rrlastOf p0=some (rrlastOf_v p0):=rfl
def K_rrlastOf (C:aj):Prop:=∀(p0:GLog) (r:Int),rrlastOf p0=some r→C 103 [.agg [.v (.i .i64 p0.fBase),.v (.i .i64 p0.fBaseTerm),.v (.sl 10 (ah GItem.row p0.fItems))]] []=some (.v (.i .i64 r),[])
noncomputable def rrtermAt (p0:GLog) (p1:Int):Option Int:=
 bif decide (p1<p0.fBase) then
  some (-1)
 else
 bif decide ((rrlastOf_v p0)<p1) then
  some (-2)
 else
 bif (p1==p0.fBase) then
  some p0.fBaseTerm
 else
 oB (idx p0.fItems (IntKind.i64.wrap ((IntKind.i64.wrap (p1-p0.fBase))-1))) fun x1=>
 some x1.fTerm
def K_rrtermAt (C:aj):Prop:=∀(p0:GLog) (p1:Int) (r:Int),rrtermAt p0 p1=some r→C 83 [.agg [.v (.i .i64 p0.fBase),.v (.i .i64 p0.fBaseTerm),.v (.sl 10 (ah GItem.row p0.fItems))],.v (.i .i64 p1)] []=some (.v (.i .i64 r),[])
noncomputable def st_rrTrimmed_0 (p0:GLog) (s:Int×GLog):Option ((Int×GLog)⊕GLog):=
 match s with
 |(p1,p2)=>
  bif decide (p1≤(rrlastOf_v p0)) then
   oB (idx p0.fItems (IntKind.i64.wrap ((IntKind.i64.wrap (p1-p0.fBase))-1))) fun x1=>
   bif dh (p2.fItems.length+1) 104 then
    some (.inl ((IntKind.i64.wrap (p1+1)),(GLog.mk p2.fBase p2.fBaseTerm (p2.fItems++ [x1]))))
   else
   none
  else
  some (.inr p2)
noncomputable def rrTrimmed (p0:GLog) (p1:Int):Option (GLog×Int):=
 oB (rrLogFault p0) fun x1=>
 bif (x1==0) then
  oB (rrtermAt p0 p1) fun x2=>
  bif (x2==(-1)) then
   some ((GLog.mk 0 0 []),11)
  else
  bif (x2==(-2)) then
   some ((GLog.mk 0 0 []),5)
  else
  oB (cM (st_rrTrimmed_0 p0) ((IntKind.i64.wrap (p1+1)),(GLog.mk p1 x2 []))) fun x3=>
  some (x3,0)
 else
 some ((GLog.mk 0 0 []),x1)
def K_rrTrimmed (C:aj):Prop:=∀(p0:GLog) (p1:Int) (r:GLog×Int),rrTrimmed p0 p1=some r→C 84 [.agg [.v (.i .i64 p0.fBase),.v (.i .i64 p0.fBaseTerm),.v (.sl 10 (ah GItem.row p0.fItems))],.v (.i .i64 p1)] []=some (.tup [.agg [.v (.i .i64 r.1.fBase),.v (.i .i64 r.1.fBaseTerm),.v (.sl 10 (ah GItem.row r.1.fItems))],.v (.i .i64 r.2)],[])
noncomputable def rrrested (p0:GLog) (p1:GSnap):Option GLog:=
 oB (rrtermAt p0 p1.fIndex) fun x1=>
 bif (x1==p1.fTerm) then
  oB (rrTrimmed p0 p1.fIndex) fun (x2,x3)=>
  some x2
 else
 some (GLog.mk p1.fIndex p1.fTerm [])
def K_rrrested (C:aj):Prop:=∀(p0:GLog) (p1:GSnap) (r:GLog),rrrested p0 p1=some r→C 57 [.agg [.v (.i .i64 p0.fBase),.v (.i .i64 p0.fBaseTerm),.v (.sl 10 (ah GItem.row p0.fItems))],.agg [.v (.i .i64 p1.fIndex),.v (.i .i64 p1.fTerm),.v (.i .i64 p1.fMachine.fStore.fNow),.v (.sl 8 (ah GEntry.row p1.fMachine.fStore.fEntries)),.v (.i .i64 p1.fMachine.fNext),.v (.sl 7 (ah GClient.row p1.fMachine.fClients))]] []=some (.agg [.v (.i .i64 r.fBase),.v (.i .i64 r.fBaseTerm),.v (.sl 10 (ah GItem.row r.fItems))],[])
noncomputable def ck_rrRestOf_q10 (p0:GLog) (p1:GSnap) (p2:Int) (p3:Bool):Option Int:=
 bif p3 then
  oB (rrSnapFault p1) fun x1=>
  some x1
 else
 some p2
noncomputable def rrRestOf (p0:GLog) (p1:GSnap):Option (GLog×Int):=
 oB (rrLogFault p0) fun x1=>
 oB (ck_rrRestOf_q10 p0 p1 x1 (x1==0)) fun x2=>
 bif (x2==0) then
  oB (rrrested p0 p1) fun x3=>
  some (x3,0)
 else
 some ((GLog.mk 0 0 []),x2)
def K_rrRestOf (C:aj):Prop:=∀(p0:GLog) (p1:GSnap) (r:GLog×Int),rrRestOf p0 p1=some r→C 17 [.agg [.v (.i .i64 p0.fBase),.v (.i .i64 p0.fBaseTerm),.v (.sl 10 (ah GItem.row p0.fItems))],.agg [.v (.i .i64 p1.fIndex),.v (.i .i64 p1.fTerm),.v (.i .i64 p1.fMachine.fStore.fNow),.v (.sl 8 (ah GEntry.row p1.fMachine.fStore.fEntries)),.v (.i .i64 p1.fMachine.fNext),.v (.sl 7 (ah GClient.row p1.fMachine.fClients))]] []=some (.tup [.agg [.v (.i .i64 r.1.fBase),.v (.i .i64 r.1.fBaseTerm),.v (.sl 10 (ah GItem.row r.1.fItems))],.v (.i .i64 r.2)],[])
noncomputable def st_rlsameItems_0_c0 (p0:List GItem) (p1:List GItem) (p2:Int) (x1:GItem) (x2:GItem):Option (Int⊕(Unit⊕Unit)):=
 bif (x1.fCall.fClient==x2.fCall.fClient) then
  bif (x1.fCall.fSeq==x2.fCall.fSeq) then
   bif (x1.fCall.fCommand.fKind==x2.fCall.fCommand.fKind) then
    bif cY x1.fCall.fCommand.fKey x2.fCall.fCommand.fKey then
     bif cY x1.fCall.fCommand.fField x2.fCall.fCommand.fField then
      bif cY x1.fCall.fCommand.fText x2.fCall.fCommand.fText then
       bif (x1.fCall.fCommand.fN==x2.fCall.fCommand.fN) then
        some (.inl (IntKind.i64.wrap (p2+1)))
       else
       some (.inr (.inl ()))
      else
      some (.inr (.inl ()))
     else
     some (.inr (.inl ()))
    else
    some (.inr (.inl ()))
   else
   some (.inr (.inl ()))
  else
  some (.inr (.inl ()))
 else
 some (.inr (.inl ()))
noncomputable def st_rlsameItems_0 (p0:List GItem) (p1:List GItem) (s:Int):Option (Int⊕(Unit⊕Unit)):=
 match s with
 |p2=>
  bif decide (p2<(p0.length:Int)) then
   oB (idx p0 p2) fun x1=>
   oB (idx p1 p2) fun x2=>
   bif (x1.fTerm==x2.fTerm) then
    bif (x1.fTime==x2.fTime) then
     bif (x1.fNop==x2.fNop) then
      st_rlsameItems_0_c0 p0 p1 p2 x1 x2
     else
     some (.inr (.inl ()))
    else
    some (.inr (.inl ()))
   else
   some (.inr (.inl ()))
  else
  some (.inr (.inr ()))
noncomputable def rlsameItems (p0:List GItem) (p1:List GItem):Option Bool:=
 bif ((p0.length:Int)==(p1.length:Int)) then
  oB (cM (st_rlsameItems_0 p0 p1) 0) fun
  | .inl _=>
   some false
  | .inr _=>
   some true
 else
 some false
def K_rlsameItems (C:aj):Prop:=∀(p0:List GItem) (p1:List GItem) (r:Bool),rlsameItems p0 p1=some r→C 58 [.v (.sl 10 (ah GItem.row p0)),.v (.sl 10 (ah GItem.row p1))] []=some (.v (.b r),[])
noncomputable def ck_rlsameLog_k1 (p0:GLog) (p1:GLog):Option Bool:=
 bif (p0.fBase==p1.fBase) then
  bif (p0.fBaseTerm==p1.fBaseTerm) then
   oB (rlsameItems p0.fItems p1.fItems) fun x1=>
   some x1
  else
  some false
 else
 some false
noncomputable def rlsameLog (p0:GLog) (p1:GLog):Option Bool:=
 oB (ck_rlsameLog_k1 p0 p1) fun x1=>
 some x1
def K_rlsameLog (C:aj):Prop:=∀(p0:GLog) (p1:GLog) (r:Bool),rlsameLog p0 p1=some r→C 18 [.agg [.v (.i .i64 p0.fBase),.v (.i .i64 p0.fBaseTerm),.v (.sl 10 (ah GItem.row p0.fItems))],.agg [.v (.i .i64 p1.fBase),.v (.i .i64 p1.fBaseTerm),.v (.sl 10 (ah GItem.row p1.fItems))]] []=some (.v (.b r),[])
noncomputable def rlTapeRests (p0:GLog) (p1:GSnap):Option Bool:=
 oB (rrLogCopy_z p0) fun x1=>
 oB (rlsnaps_z p1) fun x2=>
 oB (tape_Rest x1 x2) fun (x3,x4)=>
 oB (rrRestOf p0 p1) fun (x5,x6)=>
 bif (x4==x6) then
  oB (rlsameLog x3 x5) fun x7=>
  some x7
 else
 some false
end Go.Proofs.Ytgcglmoogaldbaa
