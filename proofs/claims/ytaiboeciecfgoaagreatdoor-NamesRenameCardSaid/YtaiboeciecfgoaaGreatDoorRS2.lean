/-
  A part of the proof. Conditions: none.
-/
import Derived.Shelf.Lays2
import Derived.Shelf.RegionOpenPlain
import Derived.WalkKit
import Derived.Deep.LoopGhost
import Derived.Deep.RegionLaw
import Derived.Lib.Walk
import Derived.Sort.WalkB12
import Derived.Lib.SliceRun
import Derived.Lib.SlicesDelete
import Derived.Shelf.Slices.Delete
set_option linter.unusedSimpArgs false
set_option linter.unusedVariables false
noncomputable section
section
set_option maxHeartbeats 4000000
set_option maxRecDepth 1000000
open Go.Shelf Go.RowKit Go.Lib Go.Sort
namespace Go.Proofs
theorem delOne {P:Program}{ρ:Ren}(L:Lays2.n23 P ρ) (B o c i j:Nat) (hj1:j=i+1) (zs:List Int) (w:World) (hh:Holds encI w B o zs.toArray) (hc:zs.length≤c) (hi:i < zs.length) :
  Calls P (ρ.f 23) #[.slice (some ⟨B,o,none⟩) zs.length c,.int .i64 i,.int .i64 j] w fun e w'=>e=.returned (.slice (some ⟨B,o,none⟩) (zs.length-1) c)∧∃ q,w'=putRow encI (Sort.ahead w q) B o (zs.take i++zs.drop j++[0]).toArray:=by
 have t0:=L.t0; have a0:=L.a0; have z0:=L.z0; have v0:=L.v0
 have t3:=L.t3; have a3:=L.a3; have z3:=L.z3; have v3:=L.v3
 have t4:=L.t4; have a4:=L.a4; have z4:=L.z4; have v4:=L.v4
 have t22:=L.t22; have a22:=L.a22; have z22:=L.z22; have v22:=L.v22
 have mixed:=L.mixed
 obtain ⟨nf,n1,_,n3,_⟩:=info_parts L.i3
 generalize hd:zs.toArray=d at hh
 have hdl:d.size=zs.length:=by rw[← hd]; simp
 have hdt:d.toList=zs:=by rw[← hd]
 rw[← hdt]
 have hsz:d.toList.length=d.size:=by simp
 rw[hsz]
 rw[← hdl]at hc hi
 obtain ⟨mv,hmv⟩:∃ mv,mv=(d.toList.drop j).map encI:=⟨_,rfl⟩
 have ml:mv.length=d.size-j:=by rw[hmv]; simp
 have mg:∀ k,k < d.size-j→mv[k]? = some (encI d[j+k]!):=fun k hk=>by
  rw[hmv,List.getElem?_map,List.getElem?_drop,Array.getElem?_toList,getElem!_pos d (j+k) (by omega),Array.getElem?_eq_getElem (by omega)]
  rfl
 obtain ⟨A,hA,from_⟩:∃ A:Addr,(if c=j then some (⟨B,o,none⟩:Addr) else some ⟨B,o+j,none⟩)=some A∧Hid (∀ k u,mv[k]? = some u→w.drew.cell? (A.add k)=some u):=by
  by_cases h:c=j
  ·refine ⟨_,if_pos h,fun k u hu=>?_⟩
   have:mv=[]:=List.eq_nil_of_length_eq_zero (by rw[ml]; omega)
   rw[this]at hu; simp at hu
  ·refine ⟨_,if_neg h,fun k u hu=>?_⟩
   have hk:k < d.size-j:=by rw[← ml]; exact (List.getElem?_eq_some_iff.1 hu).1
   rw[mg k hk]at hu
   rw[Addr.add_lit,show o+j+k=o+(j+k) by omega]
   exact (hh (j+k) (by omega)).1.trans hu
 have q1:Hid (mv.length=(d.size-j)*1):=by rw[Nat.mul_one]; exact ml
 have q2:Hid (∀ u∈mv,u.oneCell'=true):=fun u hu=>by
  rw[hmv]at hu
  obtain ⟨x,_,rfl⟩:=List.mem_map.1 hu
  rfl
 have q3:Hid (∀ k,k < mv.length→(w.drew.cell? ⟨B,o+i*1+k,none⟩).isSome=true∧w.drew.frozen? ⟨B,o+i*1+k,none⟩=false):=fun k hk=>by
  rw[ml]at hk
  rw[Nat.mul_one,Nat.add_assoc]
  exact ⟨by show (w.cell? _).isSome=true; rw[(hh (i+k) (by omega)).1]; rfl,(hh (i+k) (by omega)).2⟩
 obtain ⟨V,hV⟩:∃ V,V=w.drew.setCells B (o+i*1) mv:=⟨_,rfl⟩
 have hV':V=putRow encI (Sort.ahead w 1) B o (lay d i (d.toList.drop j)):=by
  rw[hV,hmv,Nat.mul_one,← putRow_setCells encI (Sort.ahead w 1) B o _ d i (by simp; omega),putRow_self encI (Sort.ahead w 1) B o d (holds_ahead encI w 1 B o d hh)]
  rfl
 have hhV:Holds encI V B o (lay d i (d.toList.drop j)):=by rw[hV']; exact holds_putRow encI _ B o d _ (holds_ahead encI w 1 B o d hh) (lay_size _ _ _)
 have hcl:∀ ty,(Builtin.clear_ #[ρ.t 22] ty #[.slice (some ⟨B,o+(i+(d.size-j)),none⟩) (d.size-(i+(d.size-j))) (c-(i+(d.size-j)))]).run P V=.ok (.tuple #[]) (V.setCells B (o+(i+(d.size-j))) (List.replicate (d.size-(i+(d.size-j))) (encI 0))):=
  fun ty=>Lib.run_clear_slice V _ _ ty _ t22 v3 rfl rfl B (o+(i+(d.size-j))) _ _ (by omega) (fun k hk=>by rw[show o+(i+(d.size-j))+k=o+(i+(d.size-j)+k) by omega,(hhV _ (by rw[lay_size]; omega)).1]; rfl) (fun k hk=>by rw[show o+(i+(d.size-j))+k=o+(i+(d.size-j)+k) by omega]; exact (hhV _ (by rw[lay_size]; omega)).2)
 have X:Aside (V=putRow encI (Sort.ahead w 1) B o (lay d i (d.toList.drop j))):=hV'
 have Y:Hid (V=w.drew.setCells B (o+i*1) mv):=hV
 have r1:i≤c:=by omega
 have r2:j≤c:=by omega
 have r3:j≤d.size:=by omega
 have r4:¬ i=j:=by omega
 have hij:i < j:=by omega
 clear hV hV' hhV hh mg hmv ml hd hdl hdt hsz
 have hj2:Hid (j=i+1):=hj1
 clear hj1
 go_enter L.f23,Body2.n23_ntmps ρ
 go_wp2_with fail
 go_region_law_o (refine step_append_room rfl (.tmp 22) (.tmp 25) (ρ.t 22) rfl (ρ.t 3) nf 1 t22 n1 n3 B o i c (by simp[Act.eval,Act.put]) A (d.size-j) (c-j) mv (by simp[Act.eval,Act.put]) q1.out from_.out q2.out (by omega) q3.out ?_; rw[← Y.out])
 go_wp2
 go_ret
 have hj1:=hj2.out
 refine ⟨by rw[show d.size-1=i+(d.size-j) by omega]; rfl,1,?_⟩
 have e:=delete_arr d i j 0 (by omega) (by omega)
 rw[show j-i=1 by omega]at e
 rw[show ([0]:List Int)=List.replicate 1 0 from rfl,← e,← putRow_setCells encI _ B o _ _ (i+(d.size-j)) (by rw[lay_size]; simp; omega),← X.out,List.map_replicate,show d.size-(i+(d.size-j))=1 by omega]
end Go.Proofs
end
end
