/- Can a further task come to nodes: the program's and the reference's. (Printed by genpq3.py.) -/
import Derived.Test.YtllchacophapoaaDoorK16
import Derived.Test.YtllchacophapoaaDoorK23
import Derived.Test.YtllchacophapoaaDoorK6
import Derived.Test.YtllchacophapoaaDoorK27
import Derived.Test.YtllchacophapoaaDoorK26
namespace Go.Proofs.YtllchacophapoaaDoor
open Go.RowKit
set_option maxRecDepth 4000

/-- an append that hangs on a guard -/
theorem step_append_slg {P : Program} (w : World) {ops : Array Oper} {o : Oper} {a : Act} {K : Act → World → Prop} {Q : Exit → Act → World → Prop} {X : Prop} (hgd : Region.wanted o (yielded ops a.tmps) = true) (s x : Operand) (t : TypeId)
    (ho : o.op = .call { callee := .builtin .append, args := #[s, x], argTypes := #[t, t] })
    {α : Type} {E : Enc α} {T : TypeId → Prop} (ok : E.Ok T) (flat : E.Flat) (base : Nat) (e : TypeId) (hTe : ∀ t, T t → t ≠ e) (i : TypeInfo) (z : Value) (size bytes : Nat) (ht : P.underlying t = some (.slice e)) (hi : P.info? e = some i) (hz : i.zero = some z)
    (hsize : i.size = size) (hby : i.bytes = bytes) (hzs : z.cells.size = size) (hsz : 0 < size)
    (v : Value) (hs : a.eval s = v) (xs : List α) (hown : Own e size E w base v xs) (sv : Value) (hx : a.eval x = sv) (ys : List α) (hr : RSl e size E w sv ys)
    (h63 : xs.length + ys.length ≤ 9223372036854775807) (hbytes : (xs.length + ys.length) * bytes ≤ 140737488355328) (hbase : base ≤ w.heap.size)
    (h : ∀ v' w', Own e size E w' base v' (xs ++ ys) → w.grownBy w' v.ownBlock → (v'.ownBlock = v.ownBlock ∨ v'.ownBlock = some w.heap.size) → SameT (fun t => t ≠ e) w w' → K (a.put o.dst v') w') :
    if Region.wanted o (yielded ops a.tmps) = true then Oper.wp P o a w K Q else X := by
  rw [if_pos hgd]
  exact wp_append_sl w s x t ho ok flat base e hTe i z size bytes ht hi hz hsize hby hzs hsz v hs xs hown sv hx ys hr h63 hbytes hbase h
theorem bin_row {w : World} {v : Value} {bs : List (List TaskD)} (h : RB w v bs) : ∃ A c, v = .slice A bs.length c := by
  obtain ⟨A, c, hv, _⟩ := h
  exact ⟨A, c, hv⟩

end Go.Proofs.YtllchacophapoaaDoor

/- The reference's ApartAt and ApartAll. -/
namespace Go.Proofs.YtllchacophapoaaDoor
open Go.RowKit
set_option maxRecDepth 4000

theorem come_parts' {room : List Int} {bs : List (List TaskD)} {x : TaskD} (h : canComeL room bs x = true) : room.length = 3 ∧ bs.length ≤ 14 ∧ (∀ b ∈ bs, GoodTs b) ∧ x.need.length = 3 ∧ Bd 1000 x.need := by
  simp only [canComeL, Bool.and_eq_true] at h
  obtain ⟨h1, h2, _, h4⟩ := bins_small h.1
  have h5 := (tasksOk_good h.2).2 x (by simp)
  exact ⟨h1, h2, fun b hb => (h4 b hb).1, h5.1, h5.2⟩

theorem sPut (v xv : Value) (room : List Int) (bs : List (List TaskD)) (z : Int) (x : TaskD) (w : World) (h : RB w v bs) (hx : TaskV w xv x) (hz : z < 0 ∨ ∃ (k : Nat) (b : List TaskD), z = (k : Int) ∧ bs[k]? = some b ∧ l11fits room b x = true) (hl : bs.length ≤ 3000000) (hb : ∀ b ∈ bs, b.length ≤ 4000000 ∧ ∀ t ∈ b, t.need.length ≤ 4000000) (hn : x.need.length ≤ 4000000) :
    Calls Tryd.prog 60 #[v, .int .i64 z, xv] w (RetRB w (putL bs z x)) := by
  rcases hz with hz | ⟨k, b, rfl, hk, _⟩
  · rw [putL_new hz]
    exact sPutNew v xv bs z x w h hx hl hb hn hz
  · rw [putL_at hk]
    exact sPutAt v xv bs k b x w h hx hl hb hn hk

end Go.Proofs.YtllchacophapoaaDoor

/- The program's FirstAt, ApartAt, FirstAll, ApartAll. -/
namespace Go.Proofs.YtllchacophapoaaDoor
open Go.RowKit
set_option maxRecDepth 4000

theorem come_parts {room : List Int} {bs : List (List TaskD)} {x : TaskD} (h : canComeL room bs x = true) : room.length = 3 ∧ bs.length ≤ 14 ∧ (∀ b ∈ bs, GoodTs b) ∧ x.need.length = 3 ∧ Bd 1000 x.need := by
  simp only [canComeL, Bool.and_eq_true] at h
  obtain ⟨h1, h2, _, h4⟩ := bins_small h.1
  have h5 := (tasksOk_good h.2).2 x (by simp)
  exact ⟨h1, h2, fun b hb => (h4 b hb).1, h5.1, h5.2⟩

def RetDB (r : List (List TaskD)) (w : World) (e : Ending) (w' : World) : Prop := ∃ v, e = .returned v ∧ DB w' w.heap.size v r ∧ Ext w w'
set_option maxHeartbeats 1000000 in
theorem iFirstAll (rv tv : Value) (room : List Int) (ts : List TaskD) (w : World) (hR : RI w rv room) (h : RT w tv ts) (hids : ∀ t ∈ ts, IdR t.id) :
    Calls Tryd.prog 79 #[rv, tv] w (RetDB (firstAllN room ts) w) := by
  have HR := hid hR
  have HT := hid h
  have HID := hid hids
  clear hids
  obtain ⟨Ar, cr, rfl, _⟩ := hR
  obtain ⟨At, ct, rfl, _⟩ := h
  cases hq : tasksOk room ts with
  | false =>
    have HRS : Hid (firstAllN room ts = []) := hid (by unfold firstAllN; rw [hq]; rfl)
    go_enter Tryd.func79, Tryd.ntmps79
    go_wp2_with (go_at_call 49; refine (iTasksValid _ _ room ts _ HR.out HT.out HID.out).mono ?_; rintro e w1 ⟨rfl, hE1⟩; rw [hq]; have HE1 := hid hE1; clear hE1)
    go_ret
    exact ⟨_, rfl, by rw [HRS.out]; exact DB.none_ _ _, HE1.out⟩
  | true =>
    have HRS : Hid (firstAllN room ts = allBy (fun bs x => firstAt room bs x) ts) := hid (by unfold firstAllN; rw [hq]; rfl)
    have HQ := hid hq
    go_enter Tryd.func79, Tryd.ntmps79
    go_wp2_with (first
      | (go_at_call 49; refine (iTasksValid _ _ room ts _ HR.out HT.out HID.out).mono ?_; rintro e w1 ⟨rfl, hE1⟩; rw [hq]; have HE1 := hid hE1; clear hE1)
      | (go_at_call 96; refine (iAllFirst _ _ room ts _ (RI.ext HR.out HE1.out) (RT.ext HT.out HE1.out) HQ.out).mono ?_; rintro e w2 ⟨v2, rfl, hD2, hE2⟩; have HD2 := hid (DB.low hD2 HE1.out.size); have HE2 := hid (HE1.out.trans hE2); clear hD2 hE2))
    go_ret
    exact ⟨_, rfl, by rw [HRS.out]; exact HD2.out, HE2.out⟩

end Go.Proofs.YtllchacophapoaaDoor
