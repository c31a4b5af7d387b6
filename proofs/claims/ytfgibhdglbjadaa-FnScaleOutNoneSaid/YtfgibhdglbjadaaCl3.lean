/- The reference's new cluster. -/
import Derived.Test.YtfgibhdglbjadaaCl1
namespace Go.Proofs.Ytfgibhdglbjadaa
open Go.RowKit
set_option maxRecDepth 4000

def newC (room : List Int) (nodes : Int) : ClusD × Bool := if roomOk room then if inB nodes 1 10 then (⟨room, List.replicate nodes.toNat ⟨false, []⟩⟩, true) else (⟨[], []⟩, false) else (⟨[], []⟩, false)

set_option maxHeartbeats 4000000 in
theorem sClusterNew (rv : Value) (room : List Int) (nodes : Int) (w : World) (h : RI w rv room) :
    Calls Try.prog 96 #[rv, .int .i64 nodes] w fun e w' => ∃ cv, e = .returned (.tuple #[cv, .bool (newC room nodes).2]) ∧ OCl w' w.heap.size cv (newC room nodes).1 ∧ Ext w w' := by
  have h0 := h
  obtain ⟨Ar, cr, rfl, _⟩ := h
  have hE0 := Ext.alloc w (.cells #[.slice none 0 0, .slice none 0 0] 26)
  have HE0 := hid hE0
  have G0 := hid (heap_alloc_new w (.cells #[.slice none 0 0, .slice none 0 0] 26))
  have HR0 := hid (RI.ext h0 hE0)
  clear h0 hE0
  by_cases h1 : roomOk room = true
  · by_cases h2 : inB nodes 1 10 = true
    · have hin : 1 ≤ nodes ∧ nodes ≤ 10 := by simpa [inB] using h2
      obtain ⟨n, rfl⟩ : ∃ n : Nat, nodes = n := ⟨nodes.toNat, by omega⟩
      have hn10 : n ≤ 10 := by omega
      have HC : Hid (newC room (n : Int) = (⟨room, List.replicate n ⟨false, []⟩⟩, true)) := hid (by unfold newC; rw [h1, h2, Int.toNat_natCast]; rfl)
      have hrl : room.length ≤ 3 := by have := vecOk_len (roomOk_vec h1); omega
      have HRL := hid hrl
      clear hin hrl
      obtain ⟨i0_int, hi0_int, hz0_int, hz1_int, hz2_int⟩ := info_parts info_int
      obtain ⟨i0_unit, hi0_unit, hz0_unit, hz1_unit, hz2_unit⟩ := info_parts info_unit
      go_enter Try.func96, Try.ntmps96
      go_wp2_with (first
        | (go_at_call 129; refine (sRoom _ room _ HR0.out).mono ?_; rintro e w1 ⟨rfl, n1, hw1⟩; rw [h1]; have HE1 : Hid (Ext (w.alloc (.cells #[.slice none 0 0, .slice none 0 0] 26)) w1) := hid (by rw [hw1]; exact Ext.drewN _ _); clear hw1)
        | (go_at_call 69; refine (sIn _ _ _ _).mono ?_; rintro e w2 ⟨rfl, n2, hw2⟩; rw [h2]; have HE2 : Hid (Ext (w.alloc (.cells #[.slice none 0 0, .slice none 0 0] 26)) (w2.alloc (.cells #[] 3))) := hid ((HE1.out.trans (by rw [hw2]; exact Ext.drewN _ _)).trans (Ext.alloc w2 _)); have HX2 : Hid (Ext w (w2.alloc (.cells #[] 3))) := hid (HE0.out.trans HE2.out); have hsz2 : w.heap.size ≤ w2.heap.size := (HE0.out.trans (HE1.out.trans (by rw [hw2]; exact Ext.drewN _ _))).size; have HM : Hid (OI (w2.alloc (.cells #[] 3)) w.heap.size (.slice (some ⟨w2.heap.size, 0, none⟩) 0 0) []) := hid (Own.madeAt #[] 0 _ rfl hsz2 (by omega) rfl); have HR2 := hid (RI.ext HR0.out HE2.out); have G2 := hid (HE2.out.obj G0.out); clear hw2)
        | (at_builtin; refine wpList_append_sl _ (by rfl) _ _ 23 (by rfl) EI.ok EI.flat (w.heap.size) 3 EI.ne i0_int _ 1 8 Try.underlying23 hi0_int hz0_int hz1_int hz2_int rfl (by omega) _ (by rfl) _ (HM.out) _ (by rfl) _ (HR2.out) (by have := HRL.out; simp; omega) (by have := HRL.out; simp; omega) ?_ ?_; (focus (first | exact Nat.le_refl _ | (simp; done) | (simp; omega) | omega)); intro v3 w3 hO3 hg3 hat3 hs3; rw [List.nil_append] at hO3; obtain ⟨A3, c3, rfl, hf1, hf2⟩ := hO3.form; have HE3 := hid (Ext.grown HX2.out hg3 HM.out.lt); have G3 := hid (hs3 _ _ _ _ (by decide) G2.out); have HO3 := hid hO3; clear hO3 hg3 hat3 hs3))
      go_loopw [7] (fun i wr => ∃ (k : Nat) (u : Value) (ps : List (UnitD × Value)), k ≤ n ∧ i = .int .i64 k ∧ Hid (OUV wr w.heap.size u ps ∧ ps.map (·.1) = List.replicate k ⟨false, []⟩ ∧ (blocksOf ps).Nodup ∧ Ext w wr ∧ RI wr (.slice A3 room.length c3) room ∧
        wr.heap[w.heap.size]? = some (.cells #[.slice none 0 0, .slice none 0 0] 26 (0, 0)) ∧ wr.heap[w3.heap.size + 1]? = some (.cells #[.slice A3 room.length c3, u] 26 (0, 0)) ∧ w.heap.size < w3.heap.size)) (fun i _ => n - (intOf i).toNat)
      case atStart =>
        have hx : Ext w3 ((w3.alloc (.cells #[] 56)).alloc (.cells #[.slice A3 room.length c3, .slice (some ⟨w3.heap.size, 0, none⟩) 0 0] 26)) := (Ext.alloc _ _).trans (Ext.alloc _ _)
        exact ⟨0, _, [], Nat.zero_le _, rfl, hid ⟨(Own.madeAt (w := w3) #[] 0 _ rfl HE3.out.size (by omega) rfl).ext (EUV.ok _) (Ext.alloc _ _), rfl, List.nodup_nil, HE3.out.trans hx, RI.ext HO3.out.read hx, hx.obj G3.out, heap_new (by simp), obj_lt G3.out⟩⟩
      case round =>
        obtain ⟨k, u, ps, hk, rfl, H⟩ := hrel
        obtain ⟨hO, hps, hnd, hE, hRo, hob0, hob1, hlt1⟩ := H.out
        by_cases hlt : k < n
        · have i1 : (k : Int) < (n : Int) := by omega
          have hbo := obj_cell hob1 (i := 1) rfl
          have hlps : ps.length = k := by have := congrArg List.length hps; simpa using this
          have HP := hid hlps
          have hsz := hE.size
          have hEa := (Ext.alloc wr (.cells #[] 64)).trans (Ext.alloc _ (.cells #[.bool false, .slice (some ⟨wr.heap.size, 0, none⟩) 0 0] 56))
          have HV := hid (hO.ext (EUV.ok _) hEa)
          have HT : Hid (OT ((wr.alloc (.cells #[] 64)).alloc (.cells #[.bool false, .slice (some ⟨wr.heap.size, 0, none⟩) 0 0] 56)) w.heap.size (.slice (some ⟨wr.heap.size, 0, none⟩) 0 0) []) := hid (Own.ext ET.ok (Own.madeAt (w := wr) #[] 0 _ rfl hE.size (by omega) rfl) (Ext.alloc _ _))
          have HEA := hid (hE.trans hEa)
          have HPS := hid hps
          have HND := hid hnd
          have HO := hid hO
          have G4 := hid (hEa.obj hob0)
          have G5 := hid (hEa.obj hob1)
          have HRO := hid (RI.ext hRo hEa)
          clear hO hps hnd hE hRo hob0 hob1 hlps hEa H
          go_wp2_with (at_builtin; refine wpList_append_sl _ (by rfl) _ _ 24 (by rfl) (EUV.ok _) (EUV.flat _) (w.heap.size) 56 EUV.ne i0_unit _ 2 32 Try.underlying24 hi0_unit hz0_unit hz1_unit hz2_unit rfl (by omega) _ (by rfl) _ (HV.out) _ (by rfl) _ (RSl.laid (cs := [.bool false, .slice (some ⟨wr.heap.size, 0, none⟩) 0 0]) (x := ((⟨false, []⟩ : UnitD), (.slice (some ⟨wr.heap.size, 0, none⟩) 0 0 : Value))) (heap_new (H := wr.heap.size + 1) (by simp)) rfl ⟨rfl, HT.out⟩) (by have := HP.out; simp; omega) (by have := HP.out; simp; omega) ?_ ?_; (focus (first | exact Nat.le_refl _ | (simp; done) | (simp; omega) | omega)); intro v4 w4 hO4 hg4 hat4 hs4; obtain ⟨A4, c4, rfl, _, _⟩ := hO4.form_app; have HE4 := hid (Ext.grown HEA.out hg4 HV.out.lt); have ho0 := hs4 _ _ _ _ (by decide) G4.out; have ho1 := hs4 _ _ _ _ (by decide) G5.out; have co1 := obj_cell ho1 (i := 1) rfl; have fo1 := obj_frozen ho1 1; have HO0 := hid ho0; have HO1 := hid ho1; have HO4 := hid hO4; have HS4 := hid hs4; clear hg4 hat4 ho0 ho1 hO4 hs4)
          go_roundw
          case rel =>
            have hsx : SameT (fun t => t ≠ 26) w4 (w4.setCell ⟨w3.heap.size + 1, 1, none⟩ (Value.slice A4 (ps.length + 1) c4)) := SameT.setCell (p := ⟨w3.heap.size + 1, 1, none⟩) HO1.out _ (fun t ht => ht)
            refine ⟨k + 1, Value.slice A4 (ps.length + 1) c4, ps ++ [(⟨false, []⟩, .slice (some ⟨wr.heap.size, 0, none⟩) 0 0)], by omega, by go_num, hid ⟨?_, ?_, ?_, ?_, ?_, ?_, ?_, hlt1⟩⟩
            · exact Own.same (EUV.ok _) HO4.out (hsx.mono notClu)
            · rw [List.map_append, HPS.out, List.replicate_succ']; rfl
            · exact nodup_more HO.out HND.out (fun g hg => by simp [Value.ownBlock] at hg; omega)
            · exact Below.setCell HE4.out (by show w.heap.size ≤ w3.heap.size + 1; omega) _
            · exact RI.same HRO.out ((HS4.out.mono (by rintro t rfl; decide)).trans (hsx.mono (by rintro t rfl; decide)))
            · exact obj_far HO0.out (by show w.heap.size ≠ w3.heap.size + 1; omega) _
            · exact obj_set HO1.out 1 _
          case measure => simp [intOf]; omega
        · have hk' : k = n := by omega
          have i1 : ¬ (k : Int) < (n : Int) := by omega
          obtain ⟨e0, e1, y0, y1, y0f, y1f, k1, k1f, r0, r1, hsm⟩ := res2 hob0 hob1
          have HSM := hid hsm
          have HO := hid hO
          have HP := hid hps
          have HRo := hid hRo
          have HND := hid hnd
          have HE := hid hE
          obtain ⟨Au, cu, rfl, _, _⟩ := hO.form
          clear hob0 hob1 hO hps hRo hnd hE hsm H
          subst hk'
          go_wp2
          refine bodyPost_ret (v := .tuple #[.agg #[.slice A3 room.length c3, .slice Au ps.length cu], .bool true]) (by simp [results, Try.results96, go_sem, r0, r1]) rfl ?_
          rw [HC.out]
          exact ⟨_, rfl, ⟨_, _, ps, rfl, RI.same HRo.out (HSM.out _ (by rintro t rfl; decide)), Own.same (EUV.ok _) HO.out (HSM.out _ notClu), HP.out, HND.out⟩, Below.setCell (Below.setCell HE.out (Nat.le_refl _) _) (Nat.le_refl _) _⟩
    · have h2 : inB nodes 1 10 = false := by simpa using h2
      have HC : Hid (newC room nodes = (⟨[], []⟩, false)) := hid (by unfold newC; rw [h1, h2]; rfl)
      go_enter Try.func96, Try.ntmps96
      go_wp2_with (first
        | (go_at_call 129; refine (sRoom _ room _ HR0.out).mono ?_; rintro e w1 ⟨rfl, n1, hw1⟩; rw [h1]; have HE1 : Hid (Ext (w.alloc (.cells #[.slice none 0 0, .slice none 0 0] 26)) w1) := hid (by rw [hw1]; exact Ext.drewN _ _); clear hw1)
        | (go_at_call 69; refine (sIn _ _ _ _).mono ?_; rintro e w2 ⟨rfl, n2, hw2⟩; rw [h2]; have HE2 : Hid (Ext (w.alloc (.cells #[.slice none 0 0, .slice none 0 0] 26)) w2) := hid (HE1.out.trans (by rw [hw2]; exact Ext.drewN _ _)); obtain ⟨e0, e1, y0, y1, y0f, y1f, k1, k1f, r0, r1, hsm⟩ := res2 (HE2.out.obj G0.out) (HE2.out.obj G0.out); clear hw2 hsm))
      refine bodyPost_ret (v := .tuple #[.agg #[.slice none 0 0, .slice none 0 0], .bool false]) (by simp [results, Try.results96, go_sem, r0, r1]) rfl ?_
      rw [HC.out]
      exact ⟨_, rfl, OCl.zero _ _, Below.setCell (Below.setCell (HE0.out.trans HE2.out) (Nat.le_refl _) _) (Nat.le_refl _) _⟩
  · have h1 : roomOk room = false := by simpa using h1
    have HC : Hid (newC room nodes = (⟨[], []⟩, false)) := hid (by unfold newC; rw [h1]; rfl)
    go_enter Try.func96, Try.ntmps96
    go_wp2_with (go_at_call 129; refine (sRoom _ room _ HR0.out).mono ?_; rintro e w1 ⟨rfl, n1, hw1⟩; rw [h1]; have HE1 : Hid (Ext (w.alloc (.cells #[.slice none 0 0, .slice none 0 0] 26)) w1) := hid (by rw [hw1]; exact Ext.drewN _ _); obtain ⟨e0, e1, y0, y1, y0f, y1f, k1, k1f, r0, r1, hsm⟩ := res2 (HE1.out.obj G0.out) (HE1.out.obj G0.out); clear hw1 hsm)
    refine bodyPost_ret (v := .tuple #[.agg #[.slice none 0 0, .slice none 0 0], .bool false]) (by simp [results, Try.results96, go_sem, r0, r1]) rfl ?_
    rw [HC.out]
    exact ⟨_, rfl, OCl.zero _ _, Below.setCell (Below.setCell (HE0.out.trans HE1.out) (Nat.le_refl _) _) (Nat.le_refl _) _⟩

end Go.Proofs.Ytfgibhdglbjadaa
