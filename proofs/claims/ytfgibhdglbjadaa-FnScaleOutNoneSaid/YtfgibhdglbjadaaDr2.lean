/- Rooms, tasks and needs that are drawn. -/
import Derived.Test.YtfgibhdglbjadaaDr1
import Derived.Test.YtfgibhdglbjadaaIm1
namespace Go.Proofs.Ytfgibhdglbjadaa
open Go.RowKit
set_option maxRecDepth 4000

theorem XBy.head {w : World} {A : Option Addr} {n c : Nat} {xs : List Int} (h : XBy w (.slice A n c) xs) {k : Nat} (hk : k ≤ xs.length) : XBy w (.slice A k c) (xs.take k) := by
  obtain ⟨A', c', hv, hc, hc', h⟩ := h
  injection hv with h1 h2 h3
  subst h1 h2 h3
  refine ⟨A, c, by rw [List.length_take, Nat.min_eq_left hk], by rw [List.length_take]; omega, hc', fun hn => ?_⟩
  rw [List.length_take] at hn
  obtain ⟨b, o, hA, h⟩ := h (by omega)
  refine ⟨b, o, hA, fun j x hx => ?_⟩
  rw [List.getElem?_take] at hx
  split at hx
  · exact h j x hx
  · cases hx
theorem XBy.ext {w w' : World} {v : Value} {xs : List Int} (h : XBy w v xs) (ha : Ext w w') : XBy w' v xs := RXl.ext_ EBy.okx h ha
theorem Rd.new {w : World} {A : Option Addr} {n c : Nat} {bs : List Int} (h : XBy w (.slice A n c) bs) (hl : bs.length ≤ 2000) : Rd (w.alloc (.cells #[.slice A n c, .int .i64 0] 109)) w.heap.size (.slice A n c) bs 0 := by
  refine ⟨heap_alloc_new w _, hl, h.ext (Ext.alloc _ _), fun hp b' o n' c' hv => ?_⟩
  obtain ⟨A', c'', hv', h1, h2, h3⟩ := h
  obtain ⟨b2, o2, hA, h4⟩ := h3 hp
  rw [hv'] at hv
  injection hv with e1 e2 e3
  rw [hA] at e1
  injection e1 with e1
  injection e1 with e1 _ _
  subst e1
  obtain ⟨cs, hl', he, hc⟩ := h4 0 bs[0] (List.getElem?_eq_getElem hp)
  have h5 := hc 0 cs[0] (List.getElem?_eq_getElem (by omega))
  have := World.block_lt_of_cell? w _ h5
  have h6 : b2 < w.heap.size := this
  omega

theorem dOpen (v : Value) (bs : List Int) (w : World) (h : XBy w v bs) (hl : bs.length ≤ 4000000) :
    Calls Try.prog 52 #[v] w fun e w' => e = .returned (.pointer (some ⟨w.heap.size, 0, none⟩)) ∧ (∃ bv bs', Rd w' w.heap.size bv bs' 0) ∧ Ext w w' := by
  have h0 := h
  obtain ⟨A, c, rfl, hc, hc', _⟩ := h
  by_cases hlong : 2000 < bs.length
  · have h2 : (2000 : Int) < (bs.length : Int) := by omega
    have hcc : 2000 ≤ c := by omega
    have HR := hid (Rd.new (h0.head (k := 2000) (by omega)) (by rw [List.length_take]; omega))
    clear h0
    go_enter Try.func52, Try.ntmps52
    go_wp2
    go_ret
    exact ⟨rfl, ⟨_, _, HR.out⟩, Ext.alloc _ _⟩
  · have h2 : ¬ (2000 : Int) < (bs.length : Int) := by omega
    have HR := hid (Rd.new h0 (by omega))
    clear h0
    go_enter Try.func52, Try.ntmps52
    go_wp2
    go_ret
    exact ⟨rfl, ⟨_, _, HR.out⟩, Ext.alloc _ _⟩

end Go.Proofs.Ytfgibhdglbjadaa
