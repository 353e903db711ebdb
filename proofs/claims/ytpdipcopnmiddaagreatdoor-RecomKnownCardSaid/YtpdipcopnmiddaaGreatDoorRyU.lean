/- MADE BY mkRy.py: trees as definitions, for RecomKnown. -/
import Derived.Test.YtpdipcopnmiddaaGreatDoorRzU
import Derived.Test.YtpdipcopnmiddaaGreatDoorGkT
import Derived.Test.YtpdipcopnmiddaaGreatDoorGaT
import Derived.Test.YtpdipcopnmiddaaGreatDoorGlT
import Derived.Test.YtpdipcopnmiddaaGreatDoorGmT
import Derived.Test.YtpdipcopnmiddaaGreatDoorGqT
import Derived.Test.YtpdipcopnmiddaaGreatDoorGtT
import Derived.Test.YtpdipcopnmiddaaGreatDoorGwT
import Derived.Test.YtpdipcopnmiddaaGreatDoorLgT
import Derived.Test.YtpdipcopnmiddaaGreatDoorWdT
namespace Go.Proofs.YtpdipcopnmiddaaGreatDoor
open Go.RowKit Go.RX Go.RZ Go.GS
set_option maxRecDepth 100000
noncomputable def tabY (f : FuncId) : Option (Nat × Tree) :=
 bif Nat.blt f 66 then
  bif Nat.blt f 35 then
   bif Nat.blt f 21 then
    bif Nat.blt f 10 then
     bif Nat.blt f 7 then
      bif Nat.blt f 5 then
       bif Nat.beq f 3 then some (0,tt_lRK) else none
      else
       bif Nat.blt f 6 then
        bif Nat.beq f 5 then some (1,tt_llin) else none
       else
        bif Nat.beq f 6 then some (2,tt_mchk) else none
     else
      bif Nat.blt f 8 then
       bif Nat.beq f 7 then some (3,tt_mAll) else none
      else
       bif Nat.blt f 9 then
        bif Nat.beq f 8 then some (4,tt_mBal) else none
       else
        bif Nat.beq f 9 then some (4,tt_mStep) else none
    else
     bif Nat.blt f 13 then
      bif Nat.blt f 11 then
       bif Nat.beq f 10 then some (3,tt_mOdds) else none
      else
       bif Nat.blt f 12 then
        bif Nat.beq f 11 then some (4,tt_mGo) else none
       else
        bif Nat.beq f 12 then some (2,tt_lq) else none
     else
      bif Nat.blt f 19 then
       bif Nat.blt f 18 then
        bif Nat.beq f 13 then some (2,tt_seqP) else none
       else
        bif Nat.beq f 18 then some (1,tt_gchk) else none
      else
       bif Nat.blt f 20 then
        bif Nat.beq f 19 then some (2,tt_scfI) else none
       else
        bif Nat.beq f 20 then some (1,tt_mchk1) else none
   else
    bif Nat.blt f 28 then
     bif Nat.blt f 24 then
      bif Nat.blt f 22 then
       bif Nat.beq f 21 then some (2,tt_mfit) else none
      else
       bif Nat.blt f 23 then
        bif Nat.beq f 22 then some (3,tt_tchk) else none
       else
        bif Nat.beq f 23 then some (3,tt_mbal) else none
     else
      bif Nat.blt f 26 then
       bif Nat.blt f 25 then
        bif Nat.beq f 24 then some (1,tt_pcan) else none
       else
        bif Nat.beq f 25 then some (2,tt_wstp) else none
      else
       bif Nat.blt f 27 then
        bif Nat.beq f 26 then some (3,tt_msma) else none
       else
        bif Nat.beq f 27 then some (2,tt_mallp) else none
    else
     bif Nat.blt f 31 then
      bif Nat.blt f 29 then
       bif Nat.beq f 28 then some (1,tt_sclI) else none
      else
       bif Nat.blt f 30 then
        bif Nat.beq f 29 then some (2,tt_ssrt) else none
       else
        bif Nat.beq f 30 then some (2,tt_mOdds1) else none
     else
      bif Nat.blt f 33 then
       bif Nat.blt f 32 then
        bif Nat.beq f 31 then some (2,tt_scmpP) else none
       else
        bif Nat.beq f 32 then some (1,tt_mkey) else none
      else
       bif Nat.blt f 34 then
        bif Nat.beq f 33 then some (1,tt_sRTold) else none
       else
        bif Nat.beq f 34 then some (1,tt_sFrom) else none
  else
   bif Nat.blt f 51 then
    bif Nat.blt f 43 then
     bif Nat.blt f 39 then
      bif Nat.blt f 37 then
       bif Nat.beq f 35 then some (2,tt_sOf) else none
      else
       bif Nat.blt f 38 then
        bif Nat.beq f 37 then some (2,tt_scmp) else none
       else
        bif Nat.beq f 38 then some (2,tt_sifI) else none
     else
      bif Nat.blt f 41 then
       bif Nat.blt f 40 then
        bif Nat.beq f 39 then some (3,tt_pchk) else none
       else
        bif Nat.beq f 40 then some (2,tt_pmsk) else none
      else
       bif Nat.blt f 42 then
        bif Nat.beq f 41 then some (2,tt_scfU) else none
       else
        bif Nat.beq f 42 then some (2,tt_mfit1) else none
    else
     bif Nat.blt f 46 then
      bif Nat.blt f 44 then
       bif Nat.beq f 43 then some (2,tt_mall) else none
      else
       bif Nat.blt f 45 then
        bif Nat.beq f 44 then some (2,tt_tck) else none
       else
        bif Nat.beq f 45 then some (0,tt_talo) else none
     else
      bif Nat.blt f 49 then
       bif Nat.blt f 47 then
        bif Nat.beq f 46 then some (2,tt_thas) else none
       else
        bif Nat.beq f 47 then some (2,tt_tjoi) else none
      else
       bif Nat.blt f 50 then
        bif Nat.beq f 49 then some (4,tt_tsid) else none
       else
        bif Nat.beq f 50 then some (2,tt_plab) else none
   else
    bif Nat.blt f 59 then
     bif Nat.blt f 55 then
      bif Nat.blt f 52 then
       bif Nat.beq f 51 then some (2,tt_wbel) else none
      else
       bif Nat.blt f 53 then
        bif Nat.beq f 52 then some (1,tt_mpai) else none
       else
        bif Nat.beq f 53 then some (2,tt_gcon) else none
     else
      bif Nat.blt f 57 then
       bif Nat.blt f 56 then
        bif Nat.beq f 55 then some (3,tt_mbet) else none
       else
        bif Nat.beq f 56 then some (4,tt_mrec) else none
      else
       bif Nat.blt f 58 then
        bif Nat.beq f 57 then some (2,tt_scfP) else none
       else
        bif Nat.beq f 58 then some (2,tt_msma1) else none
    else
     bif Nat.blt f 62 then
      bif Nat.blt f 60 then
       bif Nat.beq f 59 then some (2,tt_modd) else none
      else
       bif Nat.blt f 61 then
        bif Nat.beq f 60 then some (2,tt_sRMinus) else none
       else
        bif Nat.beq f 61 then some (1,tt_gSide) else none
     else
      bif Nat.blt f 64 then
       bif Nat.blt f 63 then
        bif Nat.beq f 62 then some (5,tt_spdq) else none
       else
        bif Nat.beq f 63 then some (1,tt_blenU) else none
      else
       bif Nat.blt f 65 then
        bif Nat.beq f 64 then some (2,tt_ccmp) else none
       else
        bif Nat.beq f 65 then some (1,tt_gTold) else none
 else
  bif Nat.blt f 112 then
   bif Nat.blt f 88 then
    bif Nat.blt f 73 then
     bif Nat.blt f 69 then
      bif Nat.blt f 67 then
       bif Nat.beq f 66 then some (1,tt_sWhole) else none
      else
       bif Nat.blt f 68 then
        bif Nat.beq f 67 then some (1,tt_gFrom) else none
       else
        bif Nat.beq f 68 then some (2,tt_sMake) else none
     else
      bif Nat.blt f 71 then
       bif Nat.blt f 70 then
        bif Nat.beq f 69 then some (1,tt_Of) else none
       else
        bif Nat.beq f 70 then some (3,tt_pdrw) else none
      else
       bif Nat.blt f 72 then
        bif Nat.beq f 71 then some (2,tt_ppar) else none
       else
        bif Nat.beq f 72 then some (2,tt_sifU) else none
    else
     bif Nat.blt f 77 then
      bif Nat.blt f 74 then
       bif Nat.beq f 73 then some (2,tt_mtot) else none
      else
       bif Nat.blt f 76 then
        bif Nat.beq f 74 then some (2,tt_mall1) else none
       else
        bif Nat.beq f 76 then some (2,tt_troo) else none
     else
      bif Nat.blt f 81 then
       bif Nat.blt f 78 then
        bif Nat.beq f 77 then some (2,tt_sct) else none
       else
        bif Nat.beq f 78 then some (4,tt_trea) else none
      else
       bif Nat.blt f 82 then
        bif Nat.beq f 81 then some (2,tt_gck) else none
       else
        bif Nat.beq f 82 then some (2,tt_gcomp) else none
   else
    bif Nat.blt f 95 then
     bif Nat.blt f 91 then
      bif Nat.blt f 89 then
       bif Nat.beq f 88 then some (1,tt_sclP) else none
      else
       bif Nat.blt f 90 then
        bif Nat.beq f 89 then some (2,tt_sifP) else none
       else
        bif Nat.beq f 90 then some (2,tt_mcou) else none
     else
      bif Nat.blt f 93 then
       bif Nat.blt f 92 then
        bif Nat.beq f 91 then some (2,tt_sRTimes) else none
       else
        bif Nat.beq f 92 then some (1,tt_mpar) else none
      else
       bif Nat.blt f 94 then
        bif Nat.beq f 93 then some (2,tt_sROver) else none
       else
        bif Nat.beq f 94 then some (2,tt_sRPlus) else none
    else
     bif Nat.blt f 106 then
      bif Nat.blt f 96 then
       bif Nat.beq f 95 then some (1,tt_sRTurned) else none
      else
       bif Nat.blt f 105 then
        bif Nat.beq f 96 then some (4,tt_sins) else none
       else
        bif Nat.beq f 105 then some (1,tt_cisn) else none
     else
      bif Nat.blt f 108 then
       bif Nat.blt f 107 then
        bif Nat.beq f 106 then some (1,tt_told) else none
       else
        bif Nat.beq f 107 then some (1,tt_gLonger) else none
      else
       bif Nat.blt f 109 then
        bif Nat.beq f 108 then some (2,tt_sLowest) else none
       else
        bif Nat.beq f 109 then some (2,tt_sixI) else none
  else
   bif Nat.blt f 149 then
    bif Nat.blt f 129 then
     bif Nat.blt f 120 then
      bif Nat.blt f 113 then
       bif Nat.beq f 112 then some (1,tt_gar) else none
      else
       bif Nat.blt f 119 then
        bif Nat.beq f 113 then some (1,tt_gnod) else none
       else
        bif Nat.beq f 119 then some (2,tt_tCnt) else none
     else
      bif Nat.blt f 122 then
       bif Nat.blt f 121 then
        bif Nat.beq f 120 then some (2,tt_gTimes) else none
       else
        bif Nat.beq f 121 then some (2,tt_mpar1) else none
      else
       bif Nat.blt f 123 then
        bif Nat.beq f 122 then some (2,tt_gPlus) else none
       else
        bif Nat.beq f 123 then some (1,tt_gTurned) else none
    else
     bif Nat.blt f 132 then
      bif Nat.blt f 130 then
       bif Nat.beq f 129 then some (2,tt_order) else none
      else
       bif Nat.blt f 131 then
        bif Nat.beq f 130 then some (2,tt_minus) else none
       else
        bif Nat.beq f 131 then some (1,tt_read) else none
     else
      bif Nat.blt f 134 then
       bif Nat.blt f 133 then
        bif Nat.beq f 132 then some (2,tt_gtrim) else none
       else
        bif Nat.beq f 133 then some (2,tt_gCommon) else none
      else
       bif Nat.blt f 137 then
        bif Nat.beq f 134 then some (2,tt_gParts) else none
       else
        bif Nat.beq f 137 then some (2,tt_gnod1) else none
   else
    bif Nat.blt f 162 then
     bif Nat.blt f 152 then
      bif Nat.blt f 150 then
       bif Nat.beq f 149 then some (4,tt_tcnt) else none
      else
       bif Nat.blt f 151 then
        bif Nat.beq f 150 then some (2,tt_gmul) else none
       else
        bif Nat.beq f 151 then some (2,tt_gadd) else none
     else
      bif Nat.blt f 156 then
       bif Nat.blt f 153 then
        bif Nat.beq f 152 then some (2,tt_gcmp) else none
       else
        bif Nat.beq f 153 then some (2,tt_gtake) else none
      else
       bif Nat.blt f 161 then
        bif Nat.beq f 156 then some (2,tt_gdiv) else none
       else
        bif Nat.beq f 161 then some (2,tt_tinn) else none
    else
     bif Nat.blt f 168 then
      bif Nat.blt f 163 then
       bif Nat.beq f 162 then some (5,tt_tcnt1) else none
      else
       bif Nat.blt f 167 then
        bif Nat.beq f 163 then some (1,tt_tdet) else none
       else
        bif Nat.beq f 167 then some (1,tt_glen) else none
     else
      bif Nat.blt f 171 then
       bif Nat.blt f 170 then
        bif Nat.beq f 168 then some (2,tt_gmove) else none
       else
        bif Nat.beq f 170 then some (3,tt_tinn1) else none
      else
       bif Nat.blt f 172 then
        bif Nat.beq f 171 then some (2,tt_gMinus) else none
       else
        bif Nat.beq f 172 then some (1,tt_lz64) else none
def purY (f : FuncId) : Bool := not (Nat.beq f 20 || Nat.beq f 25 || Nat.beq f 29 || Nat.beq f 30 || Nat.beq f 42 || Nat.beq f 47 || Nat.beq f 51 || Nat.beq f 58 || Nat.beq f 62 || Nat.beq f 74 || Nat.beq f 96 || Nat.beq f 121 || Nat.beq f 137 || Nat.beq f 162 || Nat.beq f 163 || Nat.beq f 170)
def orBel (vs : List AV) : Option AV := match vs with
 | [.agg [.int .u64 (.ofNat s)],.int .i64 (.ofNat n)] => bif Nat.beq n 1 && Nat.blt s 18446744073709551616 then some (.tup [.int .i64 (.ofNat 0),.agg [.int .u64 (.ofNat (Nat.mod (Nat.add s 11400714819323198485) 18446744073709551616))],.int .i64 (.ofNat 0)]) else none
 | _ => none
def orWor (vs : List AV) : Option AV := match vs with
 | [] => some (.bool true)
 | _ => none
def orvY (f : FuncId) (vs : List AV) : Option AV :=
 bif Nat.beq f 80 then orBel vs
 else bif Nat.beq f 4 then orWor vs
 else none
def orcY (f : FuncId) (vs : List AV) (s : S) (wm : Nat) : Option (List (AV × S)) := match orvY f vs with | some v => some [(v,s)] | none => orc f vs s wm
def ktyY (t : TypeId) : Bool := Nat.beq t 42 || kty t
end Go.Proofs.YtpdipcopnmiddaaGreatDoor

/- MADE BY mkRy.py: the table of trees holds. -/
namespace Go.Proofs.YtpdipcopnmiddaaGreatDoor
open Go.RowKit Go.RX Go.RZ
set_option maxRecDepth 100000 in
theorem tabY_ok : TabOk Tryz.prog tabY :=
 good_node (good_node (good_node (good_node (good_node (good_node (good_leaf ⟨by kernel_rfl, np_lRK, _, _, _, _, tr_lRK⟩)
      (good_node (good_leaf ⟨by kernel_rfl,np_llin,_,_,_,_,tr_llin⟩)
       (good_leaf ⟨by kernel_rfl,np_mchk,_,_,_,_,tr_mchk⟩)))
   (good_node (good_leaf ⟨by kernel_rfl, np_mAll, _, _, _, _, tr_mAll⟩)
    (good_node (good_leaf ⟨by kernel_rfl,np_mBal,_,_,_,_,tr_mBal⟩)
     (good_leaf ⟨by kernel_rfl, np_mStep, _, _, _, _, tr_mStep⟩))))
  (good_node (good_node (good_leaf ⟨by kernel_rfl,np_mOdds,_,_,_,_,tr_mOdds⟩)
    (good_node (good_leaf ⟨by kernel_rfl,np_mGo,_,_,_,_,tr_mGo⟩)
     (good_leaf ⟨by kernel_rfl,np_lq,_,_,_,_,tr_lq⟩)))
   (good_node (good_node (good_leaf ⟨by kernel_rfl,np_seqP,_,_,_,_,tr_seqP⟩)
     (good_leaf ⟨by kernel_rfl,np_gchk,_,_,_,_,tr_gchk⟩))
    (good_node (good_leaf ⟨by kernel_rfl,np_scfI,_,_,_,_,tr_scfI⟩)
     (good_leaf ⟨by kernel_rfl,np_mchk1,_,_,_,_,tr_mchk1⟩)))))
  (good_node (good_node (good_node (good_leaf ⟨by kernel_rfl, np_mfit, _, _, _, _, tr_mfit⟩)
     (good_node (good_leaf ⟨by kernel_rfl,np_tchk,_,_,_,_,tr_tchk⟩)
      (good_leaf ⟨by kernel_rfl,np_mbal,_,_,_,_,tr_mbal⟩)))
   (good_node (good_node (good_leaf ⟨by kernel_rfl,np_pcan,_,_,_,_,tr_pcan⟩)
    (good_leaf ⟨by kernel_rfl, np_wstp, _, _, _, _, tr_wstp⟩))
   (good_node (good_leaf ⟨by kernel_rfl,np_msma,_,_,_,_,tr_msma⟩)
    (good_leaf ⟨by kernel_rfl, np_mallp, _, _, _, _, tr_mallp⟩))))
 (good_node (good_node (good_leaf ⟨by kernel_rfl,np_sclI,_,_,_,_,tr_sclI⟩)
   (good_node (good_leaf ⟨by kernel_rfl,np_ssrt,_,_,_,_,tr_ssrt⟩)
    (good_leaf ⟨by kernel_rfl,np_mOdds1,_,_,_,_,tr_mOdds1⟩)))
  (good_node (good_node (good_leaf ⟨by kernel_rfl,np_scmpP,_,_,_,_,tr_scmpP⟩)
    (good_leaf ⟨by kernel_rfl,np_mkey,_,_,_,_,tr_mkey⟩))
   (good_node (good_leaf ⟨by kernel_rfl,np_sRTold,_,_,_,_,tr_sRTold⟩)
    (good_leaf ⟨by kernel_rfl, np_sFrom, _, _, _, _, tr_sFrom⟩))))))
(good_node (good_node (good_node (good_node (good_leaf ⟨by kernel_rfl,np_sOf,_,_,_,_,tr_sOf⟩)
   (good_node (good_leaf ⟨by kernel_rfl,np_scmp,_,_,_,_,tr_scmp⟩)
    (good_leaf ⟨by kernel_rfl,np_sifI,_,_,_,_,tr_sifI⟩)))
  (good_node (good_node (good_leaf ⟨by kernel_rfl,np_pchk,_,_,_,_,tr_pchk⟩)
    (good_leaf ⟨by kernel_rfl,np_pmsk,_,_,_,_,tr_pmsk⟩))
   (good_node (good_leaf ⟨by kernel_rfl,np_scfU,_,_,_,_,tr_scfU⟩)
    (good_leaf ⟨by kernel_rfl,np_mfit1,_,_,_,_,tr_mfit1⟩))))
 (good_node (good_node (good_leaf ⟨by kernel_rfl,np_mall,_,_,_,_,tr_mall⟩)
   (good_node (good_leaf ⟨by kernel_rfl,np_tck,_,_,_,_,tr_tck⟩)
    (good_leaf ⟨by kernel_rfl,np_talo,_,_,_,_,tr_talo⟩)))
  (good_node (good_node (good_leaf ⟨by kernel_rfl,np_thas,_,_,_,_,tr_thas⟩)
    (good_leaf ⟨by kernel_rfl,np_tjoi,_,_,_,_,tr_tjoi⟩))
   (good_node (good_leaf ⟨by kernel_rfl,np_tsid,_,_,_,_,tr_tsid⟩)
    (good_leaf ⟨by kernel_rfl,np_plab,_,_,_,_,tr_plab⟩)))))
(good_node (good_node (good_node (good_leaf ⟨by kernel_rfl,np_wbel,_,_,_,_,tr_wbel⟩)
   (good_node (good_leaf ⟨by kernel_rfl,np_mpai,_,_,_,_,tr_mpai⟩)
    (good_leaf ⟨by kernel_rfl,np_gcon,_,_,_,_,tr_gcon⟩)))
  (good_node (good_node (good_leaf ⟨by kernel_rfl,np_mbet,_,_,_,_,tr_mbet⟩)
    (good_leaf ⟨by kernel_rfl,np_mrec,_,_,_,_,tr_mrec⟩))
   (good_node (good_leaf ⟨by kernel_rfl,np_scfP,_,_,_,_,tr_scfP⟩)
    (good_leaf ⟨by kernel_rfl,np_msma1,_,_,_,_,tr_msma1⟩))))
 (good_node (good_node (good_leaf ⟨by kernel_rfl,np_modd,_,_,_,_,tr_modd⟩)
   (good_node (good_leaf ⟨by kernel_rfl,np_sRMinus,_,_,_,_,tr_sRMinus⟩)
    (good_leaf ⟨by kernel_rfl,np_gSide,_,_,_,_,tr_gSide⟩)))
  (good_node (good_node (good_leaf ⟨by kernel_rfl,np_spdq,_,_,_,_,tr_spdq⟩)
    (good_leaf ⟨by kernel_rfl,np_blenU,_,_,_,_,tr_blenU⟩))
   (good_node (good_leaf ⟨by kernel_rfl,np_ccmp,_,_,_,_,tr_ccmp⟩)
    (good_leaf ⟨by kernel_rfl,np_gTold,_,_,_,_,tr_gTold⟩)))))))
 (good_node (good_node (good_node (good_node (good_node (good_leaf ⟨by kernel_rfl, np_sWhole, _, _, _, _, tr_sWhole⟩)
      (good_node (good_leaf ⟨by kernel_rfl,np_gFrom,_,_,_,_,tr_gFrom⟩)
       (good_leaf ⟨by kernel_rfl,np_sMake,_,_,_,_,tr_sMake⟩)))
   (good_node (good_node (good_leaf ⟨by kernel_rfl,np_Of,_,_,_,_,tr_Of⟩)
    (good_leaf ⟨by kernel_rfl, np_pdrw, _, _, _, _, tr_pdrw⟩))
   (good_node (good_leaf ⟨by kernel_rfl,np_ppar,_,_,_,_,tr_ppar⟩)
    (good_leaf ⟨by kernel_rfl, np_sifU, _, _, _, _, tr_sifU⟩))))
 (good_node (good_node (good_leaf ⟨by kernel_rfl,np_mtot,_,_,_,_,tr_mtot⟩)
   (good_node (good_leaf ⟨by kernel_rfl,np_mall1,_,_,_,_,tr_mall1⟩)
    (good_leaf ⟨by kernel_rfl,np_troo,_,_,_,_,tr_troo⟩)))
  (good_node (good_node (good_leaf ⟨by kernel_rfl,np_sct,_,_,_,_,tr_sct⟩)
    (good_leaf ⟨by kernel_rfl,np_trea,_,_,_,_,tr_trea⟩))
   (good_node (good_leaf ⟨by kernel_rfl,np_gck,_,_,_,_,tr_gck⟩)
    (good_leaf ⟨by kernel_rfl,np_gcomp,_,_,_,_,tr_gcomp⟩)))))
  (good_node (good_node (good_node (good_leaf ⟨by kernel_rfl, np_sclP, _, _, _, _, tr_sclP⟩)
     (good_node (good_leaf ⟨by kernel_rfl,np_sifP,_,_,_,_,tr_sifP⟩)
      (good_leaf ⟨by kernel_rfl,np_mcou,_,_,_,_,tr_mcou⟩)))
   (good_node (good_node (good_leaf ⟨by kernel_rfl,np_sRTimes,_,_,_,_,tr_sRTimes⟩)
    (good_leaf ⟨by kernel_rfl, np_mpar, _, _, _, _, tr_mpar⟩))
   (good_node (good_leaf ⟨by kernel_rfl,np_sROver,_,_,_,_,tr_sROver⟩)
    (good_leaf ⟨by kernel_rfl, np_sRPlus, _, _, _, _, tr_sRPlus⟩))))
 (good_node (good_node (good_leaf ⟨by kernel_rfl,np_sRTurned,_,_,_,_,tr_sRTurned⟩)
   (good_node (good_leaf ⟨by kernel_rfl,np_sins,_,_,_,_,tr_sins⟩)
    (good_leaf ⟨by kernel_rfl,np_cisn,_,_,_,_,tr_cisn⟩)))
  (good_node (good_node (good_leaf ⟨by kernel_rfl,np_told,_,_,_,_,tr_told⟩)
    (good_leaf ⟨by kernel_rfl,np_gLonger,_,_,_,_,tr_gLonger⟩))
   (good_node (good_leaf ⟨by kernel_rfl,np_sLowest,_,_,_,_,tr_sLowest⟩)
    (good_leaf ⟨by kernel_rfl, np_sixI, _, _, _, _, tr_sixI⟩))))))
(good_node (good_node (good_node (good_node (good_leaf ⟨by kernel_rfl,np_gar,_,_,_,_,tr_gar⟩)
   (good_node (good_leaf ⟨by kernel_rfl,np_gnod,_,_,_,_,tr_gnod⟩)
    (good_leaf ⟨by kernel_rfl,np_tCnt,_,_,_,_,tr_tCnt⟩)))
  (good_node (good_node (good_leaf ⟨by kernel_rfl,np_gTimes,_,_,_,_,tr_gTimes⟩)
    (good_leaf ⟨by kernel_rfl,np_mpar1,_,_,_,_,tr_mpar1⟩))
   (good_node (good_leaf ⟨by kernel_rfl,np_gPlus,_,_,_,_,tr_gPlus⟩)
    (good_leaf ⟨by kernel_rfl,np_gTurned,_,_,_,_,tr_gTurned⟩))))
 (good_node (good_node (good_leaf ⟨by kernel_rfl,np_order,_,_,_,_,tr_order⟩)
   (good_node (good_leaf ⟨by kernel_rfl,np_minus,_,_,_,_,tr_minus⟩)
    (good_leaf ⟨by kernel_rfl,np_read,_,_,_,_,tr_read⟩)))
  (good_node (good_node (good_leaf ⟨by kernel_rfl,np_gtrim,_,_,_,_,tr_gtrim⟩)
    (good_leaf ⟨by kernel_rfl,np_gCommon,_,_,_,_,tr_gCommon⟩))
   (good_node (good_leaf ⟨by kernel_rfl,np_gParts,_,_,_,_,tr_gParts⟩)
    (good_leaf ⟨by kernel_rfl,np_gnod1,_,_,_,_,tr_gnod1⟩)))))
(good_node (good_node (good_node (good_leaf ⟨by kernel_rfl,np_tcnt,_,_,_,_,tr_tcnt⟩)
   (good_node (good_leaf ⟨by kernel_rfl,np_gmul,_,_,_,_,tr_gmul⟩)
    (good_leaf ⟨by kernel_rfl,np_gadd,_,_,_,_,tr_gadd⟩)))
  (good_node (good_node (good_leaf ⟨by kernel_rfl,np_gcmp,_,_,_,_,tr_gcmp⟩)
    (good_leaf ⟨by kernel_rfl,np_gtake,_,_,_,_,tr_gtake⟩))
   (good_node (good_leaf ⟨by kernel_rfl,np_gdiv,_,_,_,_,tr_gdiv⟩)
    (good_leaf ⟨by kernel_rfl,np_tinn,_,_,_,_,tr_tinn⟩))))
 (good_node (good_node (good_leaf ⟨by kernel_rfl,np_tcnt1,_,_,_,_,tr_tcnt1⟩)
   (good_node (good_leaf ⟨by kernel_rfl,np_tdet,_,_,_,_,tr_tdet⟩)
    (good_leaf ⟨by kernel_rfl,np_glen,_,_,_,_,tr_glen⟩)))
  (good_node (good_node (good_leaf ⟨by kernel_rfl,np_gmove,_,_,_,_,tr_gmove⟩)
    (good_leaf ⟨by kernel_rfl,np_tinn1,_,_,_,_,tr_tinn1⟩))
   (good_node (good_leaf ⟨by kernel_rfl,np_gMinus,_,_,_,_,tr_gMinus⟩)
    (good_leaf ⟨by kernel_rfl,np_lz64,_,_,_,_,tr_lz64⟩)))))))
end Go.Proofs.YtpdipcopnmiddaaGreatDoor

