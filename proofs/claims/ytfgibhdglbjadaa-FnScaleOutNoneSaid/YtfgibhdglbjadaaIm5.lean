/- The program's valid tasks and nodes. -/
import Derived.Test.YtfgibhdglbjadaaIm4
import Derived.Maps.OwnSet
namespace Go.Proofs.Ytfgibhdglbjadaa
open Go.RowKit
set_option maxRecDepth 4000

/-- a map's element that is a task -/
def taskElem : Value → Option (DataW Unit × List MemPlace)
  | .agg ⟨[.int .i64 _, .slice _ _ _]⟩ => some (.agg [], [])
  | _ => none
theorem taskElem_mk (x : Int) (p : Option Addr) (n c : Nat) : taskElem (.agg #[.int .i64 x, .slice p n c]) = some (.agg [], []) := rfl
theorem taskElem_inv {v : Value} {z : DataW Unit × List MemPlace} (h : taskElem v = some z) : ∃ x p n c, v = .agg #[.int .i64 x, .slice p n c] := by
  unfold taskElem at h
  split at h
  · exact ⟨_, _, _, _, rfl⟩
  · cases h
theorem zero_task (w : World) : (zeroValue 64).run Try.prog w = .ok (.agg #[.int .i64 0, .slice none 0 0]) w := by
  obtain ⟨i0_task, hi0_task, hz0_task, hz1_task, hz2_task⟩ := info_parts info_task
  simp [zeroValue, typeInfo, hi0_task, hz0_task]
def IdR (x : Int) : Prop := -9223372036854775808 ≤ x ∧ x ≤ 9223372036854775807
theorem IdR.wf {x : Int} (h : IdR x) : (Lit.int .i64 x).wf = true := by
  have h1 := h.1
  have h2 := h.2
  simp [Lit.wf, IntKind.min, IntKind.max, IntKind.signed, IntKind.bits]
  exact ⟨h1, h2⟩

def seenD (ts : List TaskD) : DataW Unit := Maps.setOf (.agg []) (ts.map fun t => Lit.int .i64 t.id)
theorem seenD_has (ts : List TaskD) (id : Int) : Maps.has (seenD ts) (.int .i64 id) = hasId ts id := by
  unfold seenD
  rw [Maps.has_setOf _ _ _ (by intro x hx; obtain ⟨t, _, rfl⟩ := List.mem_map.1 hx; trivial), List.any_map]
  unfold hasId
  congr 1
  funext t
  simp [Lit.sameKey, Function.comp]
  rw [Bool.eq_iff_iff]; simp
theorem seenD_snoc (ts : List TaskD) (t : TaskD) : seenD (ts ++ [t]) = (seenD ts).put (.int .i64 t.id) (.agg []) := by
  unfold seenD
  rw [List.map_append]
  exact Maps.setOf_snoc _ _ _
theorem wpList_seen {P : Program} (w : World) {ops : Array Oper} {rest : List Oper} {o : Oper} {a : Act} {Q : Exit → Act → World → Prop} (hg : o.guard = none) (m x : Operand) (t : TypeId) (hop : o.op = Op.lookup t m x true)
    (k e : TypeId) (K : Maps.Keyed P k) (ht : P.underlying t = some (.map k e)) (hz : (zeroValue e).run P w = .ok (.agg #[.int .i64 0, .slice none 0 0]) w) (b n : Nat) (D : DataW Unit)
    (hm : a.eval m = .map (some b)) (hown : w.ownsMap P k taskElem b n D) (key : Value) (kl : Lit) (hx : a.eval x = key) (hkey : keyOf P k key = some kl)
    (hK : ∀ x p n c, wpList P ops Q rest (a.put o.dst (.tuple #[.agg #[.int .i64 x, .slice p n c], .bool (Maps.has D kl)])) w) :
    wpList P ops Q (o :: rest) a w :=
  wpList_lookup_own_ok w hg m x t hop k e K ht taskElem hz (.agg []) [] (taskElem_mk _ _ _ _) b n D hm hown key kl hx hkey (fun v ps hv => by
    obtain ⟨x, p, n, c, rfl⟩ := taskElem_inv hv
    exact hK x p n c)
theorem keyed_int : Maps.Keyed Try.prog 3 := Maps.int_keyed Try.underlying3

theorem ownsMap_drewN {P : Program} {k : TypeId} {R : Value → Option (DataW Unit × List MemPlace)} {w : World} {b n : Nat} {D : DataW Unit} (h : w.ownsMap P k R b n D) (m : Nat) : (w.drewN m).ownsMap P k R b n D := by
  induction m generalizing w with
  | zero => exact h
  | succ m ih => exact World.ownsMap.drew (ih h)

set_option maxHeartbeats 2000000 in
theorem iTasksValid (rv v : Value) (room : List Int) (ts : List TaskD) (w : World) (hR : RI w rv room) (h : RT w v ts) (hid' : ∀ t ∈ ts, IdR t.id) :
    Calls Try.prog 93 #[rv, v] w (RetB w (tasksOk room ts)) := by
  obtain ⟨A, c, rfl, hc, hc', hr⟩ := h.get
  clear h
  by_cases hroom : roomOk room = true
  · by_cases hlen : ts.length ≤ 14
    · go_enter Try.func93, Try.ntmps93
      go_wp2_with fail
      refine (iRoomValid _ room _ hR).mono ?_
      rintro e w' ⟨rfl, n0, rfl⟩
      have hmk := run_makeMap (P := Try.prog) 147 (w.drewN n0)
      go_wp2
      go_loopw [21] (fun i wr => ∃ k : Nat, k ≤ ts.length ∧ i = .int .i64 k ∧ Hid (wr.ownsMap Try.prog 3 taskElem (w.drewN n0).heap.size k (seenD (ts.take k)) ∧ tasksTo room ts k = true ∧ Ext w wr)) (fun i _ => ts.length - (intOf i).toNat)
      case atStart => exact ⟨0, Nat.zero_le _, rfl, hid ⟨World.ownsMap_made _ _ _ _, rfl, (Ext.drewN w n0).trans (Ext.alloc _ _)⟩⟩
      case round =>
        obtain ⟨k, hk, rfl, H⟩ := hrel
        by_cases hlt : k < ts.length
        · obtain ⟨b, o, t, An, cn, rfl, e, c1, c2, hn⟩ := hr k hlt
          have i1 : (k : Int) < (ts.length : Int) := by omega
          have c1r := H.out.2.2.cell c1
          have c2r := H.out.2.2.cell c2
          have HN := hid (hn.ext H.out.2.2)
          have HR := hid (hR.ext H.out.2.2)
          have HK := hid (Maps.keyOf_int_mk Try.underlying3 (hid' t (List.mem_of_getElem? e.out)).wf)
          have hbx := cell_new wr #[.int .i64 t.id, .slice An t.need.length cn] 64
          have hb0 := hbx 0
          have hb1 := hbx 1
          simp only [List.getElem?_toArray, List.getElem?_cons_succ, List.getElem?_cons_zero] at hb0 hb1
          obtain ⟨B, hB⟩ : ∃ B, B = Obj.cells #[.int .i64 t.id, .slice An t.need.length cn] 64 := ⟨_, rfl⟩
          have HB := hid hB
          clear c1 c2 hn hbx hB
          by_cases h2 : hasId (ts.take k) t.id = true
          · go_wp2_with (at_lookup; refine wpList_seen _ rfl _ _ _ rfl _ _ keyed_int Try.underlying147 (zero_task _) _ _ _ rfl (H.out.1.alloc _) _ _ rfl HK.out ?_; intro x0 p0 n0 c0; rw [seenD_has])
            go_ret
            exact ⟨ret_b (tasksOk_bad e.out (by simp [taskFine, h2])).symm, H.out.2.2.trans ((Ext.alloc _ _).trans (Ext.alloc _ _))⟩
          · have h2 : hasId (ts.take k) t.id = false := by simpa using h2
            go_wp2_with (at_lookup; refine wpList_seen _ rfl _ _ _ rfl _ _ keyed_int Try.underlying147 (zero_task _) _ _ _ rfl (H.out.1.alloc _) _ _ rfl HK.out ?_; intro x0 p0 n0 c0; rw [seenD_has])
            refine (iIdValid _ _).mono ?_
            rintro e1 w1 ⟨rfl, n1, rfl⟩
            by_cases h1 : inB t.id 1 40 = true
            · go_wp2_with fail
              refine (iVecFits _ _ t.need room _ (HN.out.ext ((Ext.alloc _ _).trans ((Ext.alloc _ _).trans (Ext.drewN _ _)))) (HR.out.ext ((Ext.alloc _ _).trans ((Ext.alloc _ _).trans (Ext.drewN _ _))))).mono ?_
              rintro e1 w2 ⟨rfl, n2, rfl⟩
              by_cases h3 : vecFits t.need room = true
              · have hlm : k < maxLen := by unfold maxLen; omega
                go_wp2_with (at_mapUpdate; refine wpList_mapUpdate_own _ rfl _ _ _ 147 rfl 3 64 keyed_int Try.underlying147 taskElem _ k (seenD (ts.take k)) rfl (ownsMap_drewN ((H.out.1.alloc _).alloc _) _) hlm _ _ _ rfl rfl HK.out (.agg []) [] (taskElem_mk _ _ _ _) ?_; intro w3 hown3 hg3)
                go_roundw
                case rel => exact ⟨k + 1, by omega, by go_num, hid ⟨by rw [take_snoc e.out, seenD_snoc]; exact hown3, by rw [tasksTo_succ room e.out, H.out.2.1]; simp [taskFine, h1, h2, h3], Below.grown (H.out.2.2.trans ((Ext.alloc _ _).trans ((Ext.alloc _ _).trans (Ext.drewN _ _)))) hg3 (by have := H.out.2.2.size; simp; omega) (fun q hq => by injection hq with hq; subst hq; exact (Ext.drewN w n0).size)⟩⟩
                case measure => simp [intOf]; omega
              · have h3 : vecFits t.need room = false := by simpa using h3
                go_wp2
                go_ret
                exact ⟨ret_b (tasksOk_bad e.out (by simp [taskFine, h3])).symm, H.out.2.2.trans ((Ext.alloc _ _).trans ((Ext.alloc _ _).trans (Ext.drewN _ _)))⟩
            · have h1 : inB t.id 1 40 = false := by simpa using h1
              go_wp2
              go_ret
              exact ⟨ret_b (tasksOk_bad e.out (by simp [taskFine, h1])).symm, H.out.2.2.trans ((Ext.alloc _ _).trans ((Ext.alloc _ _).trans (Ext.drewN _ _)))⟩
        · go_wp2
          go_ret
          have hk' : k = ts.length := by omega
          subst hk'
          exact ⟨ret_b (by unfold tasksOk; rw [hroom, H.out.2.1, Bool.eq_iff_iff]; simp; omega), H.out.2.2⟩
    · have hlen' : 14 < ts.length := by omega
      go_enter Try.func93, Try.ntmps93
      go_wp2_with fail
      refine (iRoomValid _ room _ hR).mono ?_
      rintro e w' ⟨rfl, n0, rfl⟩
      go_wp2
      go_ret
      exact ⟨ret_b (by simp [tasksOk]; omega), Ext.drewN _ _⟩
  · have hroom : roomOk room = false := by simpa using hroom
    go_enter Try.func93, Try.ntmps93
    go_wp2_with fail
    refine (iRoomValid _ room _ hR).mono ?_
    rintro e w' ⟨rfl, n0, rfl⟩
    go_wp2
    go_ret
    exact ⟨ret_b (by simp [tasksOk, hroom]), Ext.drewN _ _⟩

end Go.Proofs.Ytfgibhdglbjadaa
