/-
  parse.sorts: the letters of a node's kids, walked over the library's own Builder. Conditions: the numbers of the kids are those of nodes.
-/
import Derived.Test.YtghkeneolbkliaaGreatDoorKTyB
import Derived.WalkKit
import Derived.BigCall
import Derived.Shelf.Strings.Builder1
set_option linter.unusedSimpArgs false
set_option linter.unusedVariables false

section
open Go.Shelf Go.RowKit
namespace Go.Proofs

def Tryz.bRen : Go.Shelf.Ren := ⟨fun n => if n = 167 then 138 else Tryz.lays105_ren.f n, Tryz.lays105_ren.t, Tryz.lays105_ren.g⟩

theorem Tryz.bLays167 : Lays.n167 Tryz.prog Tryz.bRen := { Tryz.lays105 with f167 := Tryz.func138.trans (congrArg some (by kernel_rfl)) }
theorem Tryz.bLays169 : Lays.n169 Tryz.prog Tryz.bRen := { Tryz.lays105 with }
theorem Tryz.bExtra : Builder.Extra Tryz.prog Tryz.bRen := {
  sizeBuilder := by kernel_rfl
  liesBuilder := by kernel_rfl
  t5 := Tryz.underlying5
  a5 := Tryz.isAgg5
  z5 := Tryz.sizeOf5
  v5 := Tryz.zeroValue5
  infoByte := by kernel_rfl
  cellsByte := by kernel_rfl
  sizeByte := by kernel_rfl
  neB5 := by decide }

theorem Tryz.WriteByte (B b : Nat) (bs : List Value) (c : Int) (w : World) (h : Lib.IsBuilder 162 5 B b bs w) (hlen : bs.length + 1 ≤ 140737488355328) (hBw : B ≤ w.heap.size) :
    Calls Tryz.prog 138 #[.pointer (some ⟨b, 0, none⟩), .int .u8 c] w fun e w' => e = .returned .nilIface ∧ (Lib.BuilderAt 162 5 B b (.pointer (some ⟨b, 0, none⟩)) (bs ++ [.int .u8 c]) w' ∧ Below B w w') :=
  Any.Builder_WriteByte Tryz.bLays167 Tryz.bExtra B b bs c w h hlen hBw

theorem Tryz.BString (B b : Nat) (l : List UInt8) (w : World) (h : Lib.IsBuilder 162 5 B b (Lib.byteCells l) w) (hBw : B ≤ w.heap.size) :
    Calls Tryz.prog 139 #[.pointer (some ⟨b, 0, none⟩)] w fun e w' => e = .returned (.string ⟨l.toArray⟩) ∧ Below B w w' :=
  Any.Builder_String_any Tryz.bLays169 Tryz.bExtra B b l w h hBw

theorem Tryz.bat_below {T e : TypeId} {B b : Nat} {p : Value} {bs : List Value} {W W' : World} (h : Lib.BuilderAt T e B b p bs W) (hb : Below W.heap.size W W') : Lib.BuilderAt T e B b p bs W' := by
  obtain ⟨hB, v, hv, hown, hne⟩ := h
  have hlt : b < W.heap.size := (Array.getElem?_eq_some_iff.1 hv).1
  exact ⟨hB, v, (hb.block b hlt).trans hv, hown.kept (row := none) ⟨hb.os, hb.tape, hb.output, hb.size, fun k hk _ => hb.block k hk⟩ (Classical.em _), hne⟩
theorem Tryz.isb_below {T e : TypeId} {B b : Nat} {bs : List Value} {W W' : World} (h : Lib.IsBuilder T e B b bs W) (hb : Below W.heap.size W W') : Lib.IsBuilder T e B b bs W' :=
  h.elim (fun x => .inl (Tryz.bat_below x hb)) (fun x => .inr (Tryz.bat_below x hb))

theorem Tryz.cell_lt {w : World} {a : Addr} {v : Value} (h : w.cell? a = some v) : a.block < w.heap.size := by
  rcases Nat.lt_or_ge a.block w.heap.size with h' | h'
  · exact h'
  · rw [World.cell?, Array.getElem?_eq_none h'] at h
    simp at h

/-- The letters of kinds, as bytes. -/
def Tryz.letters (ds : List Nat) : List UInt8 := ds.map fun d => UInt8.ofNat (Go.Cm.letter d)

theorem Tryz.letters_take (ds : List Nat) (j d : Nat) (h : ds[j]? = some d) : Tryz.letters (ds.take (j + 1)) = Tryz.letters (ds.take j) ++ [UInt8.ofNat (Go.Cm.letter d)] := by
  rw [List.take_add_one, h]
  simp [Tryz.letters]

open Go.Cm in
set_option maxHeartbeats 4000000 in
set_option maxRecDepth 100000 in
/-- THE WALK: kids at kp, nodes at np; kind j is the kind of the node that kid j names. -/
theorem Tryz.sorts_walk (np kp : Option Addr) (nl nc kl kc : Nat) (items n0 n1 n2 n4 : Value) (ds : List Nat) (w : World) (hdl : ds.length = kl) (hkd : ∀ k ∈ ds, k < 256)
    (hbig : kl < 140737488355328)
    (hks : ∀ j d, ds[j]? = some d → ∃ bn no bk ko k, np = some ⟨bn, no, none⟩ ∧ kp = some ⟨bk, ko, none⟩ ∧ k < nl ∧ w.cell? ⟨bk, ko + j, none⟩ = some (.int .i64 (k : Nat)) ∧ w.cell? ⟨bn, no + k * 5, none⟩ = some (.int .u8 (d : Nat))) :
    Calls Tryz.prog 121 #[.agg #[.slice np nl nc, items], .agg #[n0, n1, n2, .slice kp kl kc, n4]] w fun e w' => e = .returned (.string ⟨(Tryz.letters ds).toArray⟩) ∧ Below w.heap.size w w' := by
  have HK : Hid (∀ j d, ds[j]? = some d → ∃ bn no bk ko k, np = some ⟨bn, no, none⟩ ∧ kp = some ⟨bk, ko, none⟩ ∧ k < nl ∧ w.cell? ⟨bk, ko + j, none⟩ = some (.int .i64 (k : Nat)) ∧ w.cell? ⟨bn, no + k * 5, none⟩ = some (.int .u8 (d : Nat))) := hks
  have HD : Hid (∀ k ∈ ds, k < 256) := hkd
  clear hks hkd
  go_enter Tryz.func121, Tryz.ntmps121
  go_wp2
  go_loopw [11] (fun v wr => ∃ j : Nat, j ≤ kl ∧ v = .int .i64 j ∧ Lib.IsBuilder 162 5 (w.heap.size + 2) (w.heap.size + 2) (Lib.byteCells (Tryz.letters (ds.take j))) wr ∧ wr.cell? ⟨w.heap.size, 0, none⟩ = some (.slice np nl nc) ∧ Below w.heap.size w wr ∧ w.heap.size + 2 ≤ wr.heap.size) (fun i _ => kl - (intOf i).toNat)
  case atStart =>
    refine ⟨0, Nat.zero_le _, rfl, ?_, ?_, ?_, ?_⟩
    · simpa [Tryz.letters, Lib.byteCells] using Lib.fresh_isBuilder 162 5 ((w.alloc (.cells #[.slice np nl nc, items] 37)).alloc (.cells #[n0, n1, n2, .slice kp kl kc, n4] 76))
    · simp [go_sem]
    · exact (((Below.refl _ w).alloc (Nat.le_refl _) _).alloc (by simp) _).alloc (by simp; omega) _
    · simp
  case round =>
    obtain ⟨j, hj, rfl, hI, hT, hbw, hsz⟩ := hrel
    have HI : Hid (Lib.IsBuilder 162 5 (w.heap.size + 2) (w.heap.size + 2) (Lib.byteCells (Tryz.letters (ds.take j))) wr) := hI
    clear hI
    by_cases hlt : j < kl
    · obtain ⟨d, hd⟩ : ∃ d, ds[j]? = some d := ⟨ds[j], List.getElem?_eq_getElem (by omega)⟩
      have hd256 := HD.out d (List.mem_of_getElem? hd)
      obtain ⟨bn, no, bk, ko, k, rfl, rfl, hk, h1, h2⟩ := HK.out j d hd
      have h1' : wr.cell? ⟨bk, ko + j, none⟩ = some (.int .i64 (k : Nat)) := (hbw.cell (Tryz.cell_lt h1)).trans h1
      have h2' : wr.cell? ⟨bn, no + k * 5, none⟩ = some (.int .u8 (d : Nat)) := (hbw.cell (Tryz.cell_lt h2)).trans h2
      clear h1 h2
      have HD2 : Hid (ds[j]? = some d) := hd
      clear hd
      go_wp2_with (go_at_call 122; refine (calls_of_fn (imm := fun _ _ => none) (fnSort d hd256) rfl (by simp) (by simp) (by simp [rels, rel])).mono ?_)
      rintro e W1 ⟨⟨r, imm', _, hr, rfl⟩, b1⟩
      simp [rel] at hr
      subst hr
      have HI1 := HI.out
      have b2 := hbw.trans (b1.mono hbw.size)
      have HB : Hid (Lib.IsBuilder 162 5 (w.heap.size + 2) (w.heap.size + 2) (Lib.byteCells (Tryz.letters (ds.take j))) W1) := Tryz.isb_below HI1 b1
      have hT1 : W1.cell? ⟨w.heap.size, 0, none⟩ = some (.slice (some ⟨bn, no, none⟩) nl nc) := (b1.cell (by simp; omega)).trans hT
      have hlen : (Lib.byteCells (Tryz.letters (ds.take j))).length + 1 ≤ 140737488355328 := by rw [Lib.byteCells_length]; simp [Tryz.letters]; omega
      have hsz1 := Nat.le_trans hsz b1.size
      clear HI1
      go_wp2_with (go_at_call 138; refine (Tryz.WriteByte _ _ _ _ _ HB.out hlen hsz1).mono ?_)
      rintro e W2 ⟨rfl, hB2, b3⟩
      have hT2 : W2.cell? ⟨w.heap.size, 0, none⟩ = some (.slice (some ⟨bn, no, none⟩) nl nc) := (b3.cell (by simp)).trans hT1
      have HB2 : Hid (Lib.IsBuilder 162 5 (w.heap.size + 2) (w.heap.size + 2) (Lib.byteCells (Tryz.letters (ds.take j)) ++ [Value.int IntKind.u8 (letter d : Nat)]) W2) := Or.inr hB2
      have b4 := b2.trans (b3.mono (by omega))
      have hsz2 := Nat.le_trans hsz1 b3.size
      clear hB2 b1 b2 b3
      go_wp2
      go_roundw
      case rel =>
        refine ⟨j + 1, by omega, by go_num, ?_, hT2, b4, hsz2⟩
        rw [Tryz.letters_take ds j d HD2.out, Lib.byteCells_append]
        have := HB2.out
        have hl : letter d % 256 = letter d := Nat.mod_eq_of_lt (letter_lt d)
        simpa [Lib.byteCells, hl] using this
      case measure =>
        simp [intOf]; omega
    · have hjl : j = kl := by omega
      subst hjl
      rw [List.take_of_length_le (by omega)] at HI
      go_wp2_with (go_at_call 139; refine (Tryz.BString _ _ _ _ HI.out hsz).mono ?_)
      rintro e W1 ⟨rfl, b1⟩
      go_wp2
      go_ret
      exact ⟨rfl, hbw.trans (b1.mono (by omega))⟩
#print axioms Tryz.sorts_walk
end Go.Proofs
end
