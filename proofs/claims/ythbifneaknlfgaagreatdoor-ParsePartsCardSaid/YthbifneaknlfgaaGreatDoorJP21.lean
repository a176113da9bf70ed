/-
  A part of the proof. Conditions: none.
-/
import Derived.Test.YthbifneaknlfgaaGreatDoorJPkPG
import Derived.Deep.RegionWith
import Derived.Deep.DeepCutAuto
set_option linter.unusedSimpArgs false
set_option linter.unusedVariables false
open Nat renaming lt_succ_self→Ga,le_trans→Gb,mul_le_mul_right→Gg,le_refl→Gd,le_of_succ_le→Gh
open List renaming length_nil→Gc,length_cons→Gf,getElem?_eq_getElem→Gi,mem_of_getElem?→Gj
noncomputable section
section
open Go.Shelf Go.RowKit Go.Proofs
namespace Go.Proofs
section
theorem reg_a {W1 W:World}{n:Nat}(b3:Below W1.drew.heap.size W1.drew W) (h:n≤W1.heap.size):Below n W1 W:=((Below.refl n W1).drew).trans (b3.mono h)
theorem reg_b {W1 W:World}{o:Obj}{n:Nat}(b3:Below (W1.drew.alloc o).heap.size (W1.drew.alloc o) W) (h:n≤W1.heap.size):Below n W1 W:=
 (((Below.refl n W1).drew).alloc h o).trans (b3.mono (Gb h (by simp)))
theorem reg_c {W1 W:World}{a b c:Value}{T:TypeId}(b3:Below (W1.drew.alloc (.cells #[a,b,c] T)).heap.size (W1.drew.alloc (.cells #[a,b,c] T)) W) :
  W.cell? ⟨W1.heap.size,0,none⟩=some a∧W.cell? ⟨W1.heap.size,1,none⟩=some b∧W.cell? ⟨W1.heap.size,2,none⟩=some c∧W.frozen? ⟨W1.heap.size,0,none⟩=false∧W.frozen? ⟨W1.heap.size,1,none⟩=false∧W.frozen? ⟨W1.heap.size,2,none⟩=false:=by
 have hl:W1.heap.size < (W1.drew.alloc (.cells #[a,b,c] T)).heap.size:=by simp
 refine ⟨(b3.cell hl).trans ?_,(b3.cell hl).trans ?_,(b3.cell hl).trans ?_,(b3.frozen hl).trans ?_,(b3.frozen hl).trans ?_,(b3.frozen hl).trans ?_⟩
 all_goals simp[go_sem]
open Go.Cm in
set_option maxHeartbeats 4000000 in
set_option maxRecDepth 100000 in
theorem Tryz.print_walk (PM:Nat→World→Prop) (np kp:Option Addr) (nl nc kl kc:Nat) (ks:List Int) (ts:List (List UInt8)) (w:World) (hkl:ks.length=kl) (htl:ts.length=kl) (hbig:kl≤1000) (hts:∀ t∈ts,t.length≤1000000)
  (hPM:∀ p W W',PM p W→Below w.heap.size W W'→W'.heap[p]? = W.heap[p]?→PM p W')
  (hks:∀ (j:Nat) k,ks[j]? = some k→∃ bk ko,kp=some ⟨bk,ko,none⟩∧w.cell? ⟨bk,ko+j,none⟩=some (.int .i64 k))
  (hchk:∀ W,Below w.heap.size w W→Calls Tryz.prog 14 #[.agg #[.slice np nl nc,.slice kp kl kc]] W fun e W'=>e=.returned (.int .i64 0)∧Below W.heap.size W W')
  (hop:∀ W,Below w.heap.size w W→Calls Tryz.prog 36 #[] W fun e W'=>∃ p,e=.returned (.map (some p))∧W.heap.size≤p∧p < W'.heap.size∧PM p W'∧Below W.heap.size W W')
  (hsh:∀ (j:Nat) k s,ks[j]? = some k→ts[j]? = some s→∀ p W,PM p W→Below w.heap.size w W→Calls Tryz.prog 38 #[.agg #[.slice np nl nc,.slice kp kl kc,.map (some p)],.int .i64 k] W fun e W'=>e=.returned (.string ⟨⟨s⟩⟩)∧PM p W'∧BelowX p W.heap.size W W')
  (hlim:∀ s W,Below w.heap.size w W→s.length≤1001000000→Calls Tryz.prog 39 #[.string ⟨⟨s⟩⟩] W fun e W'=>e=.returned (if 2500 < s.length then .tuple #[.string ⟨⟨[]⟩⟩,.int .i64 5] else .tuple #[.string ⟨⟨s⟩⟩,.int .i64 0])∧Below W.heap.size W W') :
  Calls Tryz.prog 10 #[.agg #[.slice np nl nc,.slice kp kl kc]] w fun e w'=>e=.returned (if 2500 < (KF [10] ts).length then .tuple #[.string ⟨⟨[]⟩⟩,.int .i64 5] else .tuple #[.string ⟨⟨KF [10] ts⟩⟩,.int .i64 0])∧Below w.heap.size w w':=by
 have HK:Hid (∀ (j:Nat) k,ks[j]? = some k→∃ bk ko,kp=some ⟨bk,ko,none⟩∧w.cell? ⟨bk,ko+j,none⟩=some (.int .i64 k)):=hks
 have HS:Hid (∀ (j:Nat) k s,ks[j]? = some k→ts[j]? = some s→∀ p W,PM p W→Below w.heap.size w W→Calls Tryz.prog 38 #[.agg #[.slice np nl nc,.slice kp kl kc,.map (some p)],.int .i64 k] W fun e W'=>e=.returned (.string ⟨⟨s⟩⟩)∧PM p W'∧BelowX p W.heap.size W W'):=hsh
 have HT:Hid (∀ t∈ts,t.length≤1000000):=hts
 have HL:Hid (∀ s W,Below w.heap.size w W→s.length≤1001000000→Calls Tryz.prog 39 #[.string ⟨⟨s⟩⟩] W fun e W'=>e=.returned (if 2500 < s.length then .tuple #[.string ⟨⟨[]⟩⟩,.int .i64 5] else .tuple #[.string ⟨⟨s⟩⟩,.int .i64 0])∧Below W.heap.size W W'):=hlim
 have HP:Hid (∀ p W W',PM p W→Below w.heap.size W W'→W'.heap[p]? = W.heap[p]?→PM p W'):=hPM
 have HO:Hid (∀ W,Below w.heap.size w W→Calls Tryz.prog 36 #[] W fun e W'=>∃ p,e=.returned (.map (some p))∧W.heap.size≤p∧p < W'.heap.size∧PM p W'∧Below W.heap.size W W'):=hop
 have hb0:Below w.heap.size w (w.alloc (.cells #[.slice np nl nc,.slice kp kl kc] 25)):=(Below.refl _ w).alloc (Gd _) _
 have hC:=hchk _ hb0
 clear hks hsh hts hlim hPM hop hchk
 go_enter Tryz.func10,Tryz.ntmps10
 go_wp2_with (go_at_call 14; refine hC.mono ?_)
 rintro e W1 ⟨rfl,b1⟩
 have b2:=hb0.trans (b1.mono hb0.size)
 have hsz1:w.heap.size+1≤W1.heap.size:=by have:=b1.size; simp at this; omega
 have hc0:W1.cell? ⟨w.heap.size,0,none⟩=some (.slice np nl nc):=(b1.cell (by simp)).trans (by simp[go_sem])
 have hc1:W1.cell? ⟨w.heap.size,1,none⟩=some (.slice kp kl kc):=(b1.cell (by simp)).trans (by simp[go_sem])
 have hr:=hsz1
 have bz:Below (w.heap.size+1) W1 (W1.alloc (.cells #[.slice none 0 0,.slice none 0 0,.map none] 68)):=(Below.refl _ W1).alloc hsz1 _
 have ha0:=(bz.cell (p:=⟨w.heap.size,0,none⟩) (Ga _)).trans hc0
 have ha1:=(bz.cell (p:=⟨w.heap.size,1,none⟩) (Ga _)).trans hc1
 have hr1:w.heap.size≠W1.heap.size:=by omega
 have hr2:W1.heap.size≠w.heap.size:=by omega
 go_upto_region 4 with fail
 go_cut [5] (fun s5 wx=>∃ pb p,s5=.pointer (some ⟨pb,0,none⟩)∧w.heap.size+1≤pb∧pb < wx.heap.size∧w.heap.size≤p∧p < wx.heap.size∧pb≠p∧wx.cell? ⟨pb,0,none⟩=some (.slice np nl nc)∧wx.cell? ⟨pb,1,none⟩=some (.slice kp kl kc)∧wx.cell? ⟨pb,2,none⟩=some (.map (some p))∧PM p wx∧Below w.heap.size w wx∧wx.cell? ⟨w.heap.size,1,none⟩=some (.slice kp kl kc))
 case first=>
  go_region_with (go_at_call 36; refine (HO.out _ ?_).mono ?_; (first | exact b2.drew | exact b2.drew.alloc (show _≤W1.heap.size by omega) _); rintro e W ⟨p,rfl,hp1,hp2,hPM,b3⟩; (first | (have bb:=reg_a b3 hsz1; have bbA:W1.heap.size≤p:=hp1) | (have bb:=reg_b b3 hsz1; obtain ⟨f0,f1,f2,z0,z1,z2⟩:=reg_c b3; have bbB:W1.heap.size+1≤p:=(by simpa using hp1))); have g0:=(bb.cell (p:=⟨w.heap.size,0,none⟩) (Ga _)).trans hc0; have g1:=(bb.cell (p:=⟨w.heap.size,1,none⟩) (Ga _)).trans hc1; have hq:=Nat.lt_of_lt_of_le hsz1 bb.size; have hq1:=Nat.ne_of_lt hq; have hq2:=Nat.ne_of_gt hq; have by1:Below (w.heap.size+1) W1 (W.alloc (.cells #[.slice none 0 0,.slice none 0 0,.map none] 68)):=bb.alloc hq _; have hy0:=(by1.cell (p:=⟨w.heap.size,0,none⟩) (Ga _)).trans hc0; have hy1:=(by1.cell (p:=⟨w.heap.size,1,none⟩) (Ga _)).trans hc1)
  all_goals (go_wp2_with fail; go_meet)
  all_goals have bB:Below w.heap.size w W:=b2.trans (bb.mono (Nat.le_succ _))
  all_goals first
   |have bbC:=bbA
    refine ⟨W.heap.size,p,rfl,?_,?_,?_,?_,?_,?_,?_,?_,?_,?_,?_⟩
    ·omega
    ·simp
    ·omega
    ·simp; omega
    ·omega
    ·simp[go_sem]
    ·simp[go_sem]
    ·simp[go_sem]
    ·exact HP.out p W _ hPM ((Below.refl _ W).alloc (by omega) _) (Below.heap_alloc _ _ _ hp2)
    ·exact bB.alloc (by omega) _
    ·exact ((Below.refl W.heap.size W).alloc (Gd _) _).cell (p:=⟨w.heap.size,1,none⟩) hq |>.trans g1
   |have bbC:=bbB
    have hW1:=bb.size
    refine ⟨W1.heap.size,p,rfl,?_,?_,?_,?_,?_,?_,?_,?_,?_,?_,?_⟩
    ·omega
    ·simp[World.setCell]; omega
    ·omega
    ·simp[World.setCell]; omega
    ·omega
    ·exact (World.cell?_setCell_other _ _ _ _ (by simp)).trans ((World.cell?_setCell_other _ _ _ _ (by simp)).trans (World.cell?_setCell_same _ _ _ f0))
    ·exact (World.cell?_setCell_other _ _ _ _ (by simp)).trans (World.cell?_setCell_same _ _ _ ((World.cell?_setCell_other _ _ _ _ (by simp)).trans f1))
    ·exact World.cell?_setCell_same _ _ _ ((World.cell?_setCell_other _ _ _ _ (by simp)).trans ((World.cell?_setCell_other _ _ _ _ (by simp)).trans f2))
    ·exact HP.out p W _ hPM ((((Below.refl _ W).setCell (by simp; omega) _).setCell (by simp; omega) _).setCell (by simp; omega) _) ((Below.heap_setCell _ _ _ _ (by simp; omega)).trans ((Below.heap_setCell _ _ _ _ (by simp; omega)).trans (Below.heap_setCell _ _ _ _ (by simp; omega))))
    ·exact ((bB.setCell (by simp; omega) _).setCell (by simp; omega) _).setCell (by simp; omega) _
    ·exact ((((Below.refl (w.heap.size+1) W).setCell (by simp; omega) _).setCell (by simp; omega) _).setCell (by simp; omega) _).cell (p:=⟨w.heap.size,1,none⟩) (Ga _) |>.trans g1
 case rest=>
 obtain ⟨pb,p,rfl,hpb,hpbs,hp0,hps,hne,hT0,hT1,hT2,hPx,hbx,hk1⟩:=hcut
 clear hc0 hc1 b1 b2 hb0 hC bz ha0 ha1 hr1 hr2 hr
 generalize wc=w1 at *
 have hw1:w.heap.size < w1.heap.size:=by omega
 have bal:Below w1.heap.size w1 (w1.alloc (.cells #[.pointer none,.slice none 0 0] 72)):=(Below.refl _ w1).alloc (Gd _) _
 have hk2:=(bal.cell (p:=⟨w.heap.size,1,none⟩) hw1).trans hk1
 go_wp2_with fail
 go_loopw [20] (fun v wr=>∃ j:Nat,j≤kl∧v=.int .i64 j∧Lib.IsBuilder 72 5 w1.heap.size w1.heap.size (Lib.byteCells (KF [10] (ts.take j))) wr∧wr.cell? ⟨pb,0,none⟩=some (.slice np nl nc)∧wr.cell? ⟨pb,1,none⟩=some (.slice kp kl kc)∧wr.cell? ⟨pb,2,none⟩=some (.map (some p))∧Below w.heap.size w wr∧w1.heap.size+1≤wr.heap.size∧PM p wr) (fun i _=>kl-(intOf i).toNat)
 case atStart=>
  refine ⟨0,Nat.zero_le _,rfl,?_,(bal.cell hpbs).trans hT0,(bal.cell hpbs).trans hT1,(bal.cell hpbs).trans hT2,hbx.trans (bal.mono (by omega)),by simp,HP.out p _ _ hPx (bal.mono (by omega)) (bal.block p hps)⟩
  simpa [KF,Lib.byteCells]using Lib.fresh_isBuilder 72 5 w1
 case round=>
  clear hT0 hT1 hT2 hPx hbx hk1 bal hk2
  obtain ⟨j,hj,rfl,hI,hT0,hT1,hT2,hbw,hsz,hPr⟩:=hrel
  have HI:Hid (Lib.IsBuilder 72 5 w1.heap.size w1.heap.size (Lib.byteCells (KF [10] (ts.take j))) wr):=hI
  clear hI
  by_cases hlt:j < kl
  ·obtain ⟨k,hk⟩:∃ k,ks[j]? = some k:=⟨ks[j],Gi (by omega)⟩
   obtain ⟨s,hs⟩:∃ s,ts[j]? = some s:=⟨ts[j],Gi (by omega)⟩
   have hsl:=HT.out s (Gj hs)
   obtain ⟨bk,ko,rfl,h1⟩:=HK.out j k hk
   have h1':wr.cell? ⟨bk,ko+j,none⟩=some (.int .i64 k):=(hbw.cell (Tryz.cell_lt h1)).trans h1
   clear h1
   have HS2:Hid (ts[j]? = some s):=hs
   have hcall:=HS.out j k s hk hs p wr hPr hbw
   clear hk hs hPr
   go_wp2_with (go_at_call 38; refine hcall.mono ?_)
   rintro e W2 ⟨rfl,hP1,b1⟩
   have HI1:=HI.out
   have b2:Below w.heap.size w W2:=⟨b1.os.trans hbw.os,b1.tape.trans hbw.tape,b1.output.trans hbw.output,Gb hbw.size b1.size,fun i hi=>(b1.block i (by omega) (by omega)).trans (hbw.block i hi)⟩
   have HB:Hid (Lib.IsBuilder 72 5 w1.heap.size w1.heap.size (Lib.byteCells (KF [10] (ts.take j))) W2):=Tryz.isb_belowX HI1 hps b1
   have hT0':W2.cell? ⟨pb,0,none⟩=some (.slice np nl nc):=(b1.cell (by simp; omega) hne).trans hT0
   have hT1':W2.cell? ⟨pb,1,none⟩=some (.slice (some ⟨bk,ko,none⟩) kl kc):=(b1.cell (by simp; omega) hne).trans hT1
   have hT2':W2.cell? ⟨pb,2,none⟩=some (.map (some p)):=(b1.cell (by simp; omega) hne).trans hT2
   have hel:=eachL_le (e:=[10]) (j:=j) HT.out
   rw[htl]at hel
   have hmul:kl*(1000000+1)≤1000*(1000000+1):=Gg _ hbig
   simp only[Gf,Gc]at hel
   have hlen:(Lib.byteCells (KF [10] (ts.take j))).length+(⟨⟨s++[10]⟩⟩:ByteArray).size≤140737488355328:=by
    rw[Lib.byteCells_length]
    simp only[S_size,List.length_append,Gf,Gc]
    omega
   have hcat:(⟨⟨s⟩⟩:ByteArray)++⟨#[10]⟩=⟨⟨s++[10]⟩⟩:=by
    apply ByteArray.ext
    simp
   have hsz1:=Gb hsz b1.size
   have hss:(⟨⟨s⟩⟩:ByteArray).size=s.length:=rfl
   clear HI1
   go_wp2_with (go_at_call 37; rw[hcat])
   refine (Tryz.WriteString _ _ _ _ _ HB.out hlen (Gh hsz1)).mono ?_
   rintro e W3 ⟨rfl,hB2,b3⟩
   have hT0'':W3.cell? ⟨pb,0,none⟩=some (.slice np nl nc):=(b3.cell hpbs).trans hT0'
   have hT1'':W3.cell? ⟨pb,1,none⟩=some (.slice (some ⟨bk,ko,none⟩) kl kc):=(b3.cell hpbs).trans hT1'
   have hT2'':W3.cell? ⟨pb,2,none⟩=some (.map (some p)):=(b3.cell hpbs).trans hT2'
   have HB2:Hid (Lib.IsBuilder 72 5 w1.heap.size w1.heap.size (Lib.byteCells (KF [10] (ts.take j))++Lib.strCells ⟨⟨s++[10]⟩⟩) W3):=Or.inr hB2
   have b5:Below w.heap.size W2 W3:=b3.mono (by omega)
   have b4:=b2.trans b5
   have hsz2:=Gb hsz1 b3.size
   have hP2:=HP.out p _ _ hP1 b5 (b3.block p hps)
   clear hB2 b1 b2 b3 hP1 b5
   go_wp2
   go_roundw
   case rel=>
    refine ⟨j+1,by omega,by go_num,?_,hT0'',hT1'',hT2'',b4,hsz2,hP2⟩
    rw[Jem HS2.out,Lib.byteCells_append]
    exact HB2.out
   case measure=>
    simp[intOf]; omega
  ·have hjl:j=kl:=by omega
   subst hjl
   rw[List.take_of_length_le (by omega)]at HI
   have hel:=Jdt (e:=[10]) ts HT.out
   rw[htl]at hel
   have hmul:j*(1000000+1)≤1000*(1000000+1):=Gg _ hbig
   simp only[Gf,Gc]at hel
   go_wp2_with (go_at_call 40; refine (Tryz.BString _ _ _ _ HI.out (Gh hsz)).mono ?_)
   rintro e W2 ⟨rfl,b1⟩
   have b5:Below w.heap.size wr W2:=b1.mono (by omega)
   have hL:=HL.out (KF [10] ts) W2 (hbw.trans b5) (by omega)
   have hb8:=hbw.trans b5
   by_cases hc:2500 < (KF [10] ts).length
   ·rw[if_pos hc]at hL
    have HC:Hid (2500 < (KF [10] ts).length):=hc
    clear hc hel hmul HI b1 b5 hT0 hT1 hT2 hPr hsz hbw
    go_wp2_with (go_at_call 39; refine hL.mono ?_)
    rintro e W3 ⟨rfl,b6⟩
    have b7:=hb8.trans (b6.mono hb8.size)
    go_wp2
    go_ret2
    exact ⟨rfl,b7⟩
   ·rw[if_neg hc]at hL
    have HC:Hid (¬ 2500 < (KF [10] ts).length):=hc
    clear hc hel hmul HI b1 b5 hT0 hT1 hT2 hPr hsz hbw
    go_wp2_with (go_at_call 39; refine hL.mono ?_)
    rintro e W3 ⟨rfl,b6⟩
    have b7:=hb8.trans (b6.mono hb8.size)
    go_wp2
    go_ret2
    exact ⟨rfl,b7⟩
end
end Go.Proofs
end
section
set_option maxRecDepth 100000
set_option maxHeartbeats 4000000
open Go.Proofs Go.RowKit
namespace Go.Cm
section
section
variable {E:Env}{m:Bk}{H:List CObj}{w W W':World}{x:Own}{kvs:List (CV×CV)}
theorem Sim.again2 (hs:Sim E m H w) (hW:Sim Env.none { own:=[x],imm:=m.imm,ext:=fun _=>False } [.map kvs] W) (hb:Below w.heap.size W W') (hx:W'.heap[x.B]? = W.heap[x.B]?):Sim Env.none { own:=[x],imm:=m.imm,ext:=fun _=>False } [.map kvs] W' where
 len:=rfl
 obj k o y hk hy:=by
  cases k with
  |zero=>
   simp at hk hy
   subst hk hy
   exact JW (J9.refl _) (JY.refl _) (fun _=>hx) (hW.obj 0 _ x rfl rfl)
  |succ k=>simp at hk
 imm B i v hv:=(cell?_congr (hb.block _ (X6 hs hv))).trans (hW.imm B i v hv)
 one:=hW.one
 sep:=hW.sep
 ro:=hW.ro
 ext k s b hk:=by
  cases k with
  |zero=>simp at hk
  |succ k=>simp at hk
 extsep:=hW.extsep
 extlt B h:=hW.gl.1.mono (fun B hB=>hb.block B (hs.gl.1.lt hB)) |>.lt (h.resolve_left fun h=>h)
 gl:=⟨hW.gl.1.mono fun B hB=>hb.block B (hs.gl.1.lt hB),fun B h=>h.elim⟩
end
theorem parsePrint0 (t:Tr) (ht:t.Fit) {o:List Int}(g:GoodT t o) (hc:chk t=0):Fn Tryz.prog 10 [t.cv] (limV (KF [10] (t.items.map (Jh t.nodes)))):=by
 intro E H
 refine JG fun m w vs hs hv=>?_
 have hgl:=hs.gl.1
 have hvI:JC [] m.imm [t.cv] vs.toList:=J7 _ _ rfl hv
 simp only[JC,rel,Tr.cv,Tr.row]at hvI
 obtain ⟨_,_,e0,⟨a,rfl,p0,_,e1,h1,p1,_,rfl,h2,rfl⟩,rfl⟩:=hvI
 have ha:a=#[p0,p1]:=by cases a; simp_all
 subst ha
 have hvs:vs=#[.agg #[p0,p1]]:=by cases vs; simp_all
 subst hvs
 have hil:(iz t.items).length=t.items.length:=Jn
 have hmany:=ht.many
 have hit:=ht.items
 obtain ⟨np,nl,nc,rfl⟩:∃ np nl nc,p0=.slice np nl nc:=by
  rcases h1 with ⟨_,_,b,rfl⟩ | ⟨B,o,c,rfl,_⟩ <;> exact ⟨_,_,_,rfl⟩
 obtain ⟨kp,kc,rfl,hcell⟩:∃ kp kc,p1=.slice kp t.items.length kc∧∀ (j:Nat) k,t.items[j]? = some k→∃ bk ko,kp=some ⟨bk,ko,none⟩∧w.cell? ⟨bk,ko+j,none⟩=some (.int .i64 k):=by
  rcases h2 with ⟨_,h0,b,rfl⟩ | ⟨B,o,c,rfl,_,_,hels⟩
  ·have:t.items=[]:=by
    cases hh:t.items with
    |nil=>rfl
    |cons a l=>rw[hh]at h0; simp[iz]at h0
   rw[this]
   exact ⟨_,_,rfl,by simp⟩
  ·refine ⟨_,_,by rw[hil],fun j k hj=>⟨B,o,rfl,?_⟩⟩
   obtain ⟨r,hr1,hr2⟩:=((J4 _ o).1 hels j [.int .i64 k] (by simp[iz,hj])).2 0 _ rfl
   simp only[rel]at hr2
   subst hr2
   simpa using hs.imm _ _ _ hr1
 have hargs:JC [] m.imm [t.cv] (#[Value.agg #[.slice np nl nc,.slice kp t.items.length kc]]:Array Value).toList:=by
  simp only[JC,rel,Tr.cv,Tr.row]
  exact ⟨_,_,rfl,⟨_,rfl,_,_,rfl,h1,_,_,rfl,h2,rfl⟩,rfl⟩
 have himm:∀ W,Below w.heap.size w W→∀ B i x,m.imm B i=some x→W.cell? ⟨B,i,none⟩=some x:=fun W hb B i x hx=>(cell?_congr (hb.block _ (X6 hs hx))).trans (hs.imm B i x hx)
 have hglW:∀ W,Below w.heap.size w W→GLw W:=fun W hb=>hgl.mono fun B hB=>hb.block B (hgl.lt hB)
 have hitem:∀ k∈t.items,0≤k∧k < t.nodes.length:=fun k hk=>by
  have:=QR g.ord.ok g.olen _ _ _ g.its k hk
  exact ⟨this.2.1,this.2.2.2⟩
 have hW:=Tryz.print_walk (fun p W=>∃ x:Own,x.B=p∧Sim Env.none { own:=[x],imm:=m.imm,ext:=fun _=>False } [.map J6] W) np kp nl nc t.items.length kc t.items (t.items.map (Jh t.nodes)) w rfl (by rw[List.length_map]) (by omega)
  (fun u hu=>by
   obtain ⟨k,hk,rfl⟩:=List.mem_map.1 hu
   have:=g.txt_le ht (hitem k hk).1 (hitem k hk).2
   omega)
  (fun p W W' hP hb hx=>by
   obtain ⟨x,rfl,hS⟩:=hP
   exact ⟨x,rfl,hs.again2 hS hb hx⟩)
  hcell
  (fun W hb=>by
   refine (JaW (Qg t ht) rfl (himm W hb) hs.one hargs (hglW W hb)).mono ?_
   rintro e W' ⟨⟨r,imm',_,hr,rfl⟩,hb2⟩
   rw[hc]at hr
   simp only[rel]at hr
   subst hr
   exact ⟨rfl,hb2⟩)
  (fun W hb=>by
   have hsW:Sim Env.none { own:=[],imm:=m.imm,ext:=fun _=>False } [] W:=⟨rfl,by simp,himm W hb,hs.one,by simp,by simp,by simp,by simp,fun B h=>(hglW W hb).lt (h.resolve_left id),hglW W hb,by simp⟩
   refine (((Jd2 (E:=Env.none) (H:=[])) _ W #[] hsW (by simp[JC])).calls fun k=>JaI none k).mono ?_
   rintro e W' ⟨r,m',v',H',rfl,hext,hs',hrel,rfl,rfl⟩
   simp only[Gc,List.nil_append]at hs' hrel hext
   simp only[rel]at hrel
   obtain ⟨x,hx,rfl⟩:=hrel
   have hno:∀ B,¬ owned { own:=[],imm:=m.imm,ext:=fun _=>False } [] B:=by
    rintro B (h | ⟨k,o,x,hk,_⟩)
    ·exact h
    ·simp at hk
   have hxn:W.heap.size≤x.B:=(hext.newOwn x.B (.inr ⟨0,_,x,rfl,rfl,hx,rfl⟩)).resolve_left (hno _)
   have hbW:Below W.heap.size W W':=⟨hext.same.1,hext.same.2.2,hext.same.2.1,hext.size,fun k hk=>hext.frame k hk (hno k)⟩
   have hbw':Below w.heap.size w W':=hb.trans (hbW.mono hb.size)
   refine ⟨x.B,rfl,hxn,Qx hs' (k:=0) rfl rfl hx,⟨x,rfl,?_⟩,hbW⟩
   refine ⟨rfl,fun k o y hk hy=>?_,himm W' hbw',hs.one,fun k k' o o' y y' hk hk' _ _ _ _ _=>?_,fun k o y hk _ hy i hi=>?_,fun k s b hk=>?_,fun k o y hk hal hy=>?_,fun B h=>(hglW W' hbw').lt (h.resolve_left fun h=>h),hglW W' hbw',fun B h=>h.elim⟩
   ·cases k with
    |zero=>
     simp at hk hy
     subst hk hy
     exact map_flat JbL (hs'.obj 0 _ x rfl hx)
    |succ k=>simp at hk
   ·cases k <;> cases k' <;> simp at hk hk' ⊢
   ·cases k with
    |zero=>
     simp at hy
     subst hy
     cases hv:m.imm x.B i with
     |none=>rfl
     |some v=>
      have:=X6 hs hv
      have:=hb.size
      omega
    |succ k=>simp at hy
   ·cases k <;> simp at hk
   ·cases k with
    |zero=>
     simp at hy
     subst hy
     rintro (h | h)
     ·exact h
     ·have:=hgl.lt h
      have:=hb.size
      omega
    |succ k=>simp at hy)
  (fun j k s hj hsj p W hP hb=>by
   obtain ⟨x,rfl,hS⟩:=hP
   have hmem:=Gj hj
   have es:s=Jh t.nodes k:=by
    rw[List.getElem?_map,hj]at hsj
    simpa using hsj.symm
   subst es
   refine (calls_M (m:=m) JbL (g.showOk' ht (hitem k hmem).1 (hitem k hmem).2) hS ?_).mono ?_
   ·simp only[JC,prn,rel]
    exact ⟨_,_,rfl,⟨_,rfl,_,_,rfl,h1,_,_,rfl,h2,_,_,rfl,⟨x,rfl,rfl⟩,rfl⟩,_,_,rfl,rfl,rfl⟩
   ·rintro e W' ⟨h1,h2,h3⟩
    exact ⟨h1,⟨x,rfl,h2⟩,h3⟩)
  (fun s W hb hsl=>by
   refine (JaW (imm:=m.imm) (vs:=#[.string ⟨⟨s⟩⟩]) (Jb6 s) (by unfold limV; split <;> rfl) (himm W hb) hs.one (by simp[JC,rel]) (hglW W hb)).mono ?_
   rintro e W' ⟨⟨r,imm',_,hr,rfl⟩,hb2⟩
   refine ⟨?_,hb2⟩
   unfold limV at hr
   by_cases hc:2500 < s.length
   ·rw[if_pos hc]at hr ⊢
    simp only[rel,JC]at hr
    obtain ⟨tv,rfl,_,_,e1,rfl,_,_,rfl,rfl,rfl⟩:=hr
    have:tv=#[.string ⟨⟨[]⟩⟩,.int .i64 5]:=by cases tv; simp_all
    rw[this]
   ·rw[if_neg hc]at hr ⊢
    simp only[rel,JC]at hr
    obtain ⟨tv,rfl,_,_,e1,rfl,_,_,rfl,rfl,rfl⟩:=hr
    have:tv=#[.string ⟨⟨s⟩⟩,.int .i64 0]:=by cases tv; simp_all
    rw[this])
 refine ⟨_,hW,?_⟩
 unfold limV
 by_cases hc:2500 < (KF [10] (t.items.map (Jh t.nodes))).length
 ·rw[if_pos hc,if_pos hc]
  simp only[rel,JC]
  exact ⟨_,rfl,_,_,rfl,rfl,_,_,rfl,rfl,rfl⟩
 ·rw[if_neg hc,if_neg hc]
  simp only[rel,JC]
  exact ⟨_,rfl,_,_,rfl,rfl,_,_,rfl,rfl,rfl⟩
theorem parsePrint (t:Tr) (ht:t.Fit):Fn Tryz.prog 10 [t.cv] (if chk t≠0 then .tup [S [],.int .i64 (chk t)] else limV (KF [10] (t.items.map (Jh t.nodes)))):=by
 by_cases h:chk t=0
 ·obtain ⟨o,g⟩:=(Kq t).1 h
  rw[if_neg (by simp[h])]
  exact parsePrint0 t ht g h
 ·have e:(chk t != 0)=true:=by simpa using h
  rw[if_pos h]
  refine Jc c10_ok rfl rfl fun N=>?_
  simp -implicitDefEqProofs only[c10,go_sem,Tr.cv,Tr.row]
  refine JZ (Qg t ht) ?_
  simp -implicitDefEqProofs only[go_sem,e]
end
end Go.Cm
end
end
