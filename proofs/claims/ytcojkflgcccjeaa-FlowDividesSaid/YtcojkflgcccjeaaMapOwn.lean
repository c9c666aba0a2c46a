/- A map with int keys and Bool elements, in the kit's words. Over any program. Conditions: none. -/
import Derived.Test.YtcojkflgcccjeaaList
import Derived.Maps.Own
import Derived.Maps.OwnSet
import Derived.Lib.SlKeysI
namespace Go.Eng
open Go Go.RowKit Go.MapKept
open Go.WideElems (Fit rd rg)
theorem nodup_int {l : List Int} (h : l.Nodup) : (l.map (Value.int .i64)).Nodup := by
  refine List.pairwise_map.2 (h.imp fun {a b} hne e => hne ?_)
  injection e
theorem Mp.owns {H : Type} {P : Program} {k e : TypeId} (hk : P.underlying k = some (.int .i64)) (he : P.underlying e = some .bool) {w : World} {b : Nat} {m : List (Int × Value)} (h : Mp w b m)
    (hf : ∀ p ∈ m, (Lit.int .i64 p.1).wf = true ∧ ∃ x, p.2 = .bool x) (hm : m.length ≤ maxLen) :
    ∃ D0 : DataW H, w.ownsMap P k (plainElem P e) b m.length D0 ∧ (intKeys D0).Perm (m.map (·.1)) ∧ Maps.size D0 = m.length := by
  obtain ⟨es, clock, h1, h2, h3, h4, h5⟩ := h
  have hlen : es.toList.length = m.length := by have := congrArg List.length h2; simpa using this
  have hkeys : es.toList.map (·.key) = (m.map (·.1)).map (Value.int .i64) := by
    have := congrArg (List.map (·.1)) h2
    rw [List.map_map, List.map_map] at this
    rw [List.map_map]
    exact this
  have hat : ∀ x ∈ es.toList, ∃ p ∈ m, x.key = .int .i64 p.1 ∧ x.val = p.2 := fun x hx => by
    have : (x.key, x.val) ∈ m.map (fun p => ((.int .i64 p.1 : Value), p.2)) := by rw [← h2]; exact List.mem_map.2 ⟨x, hx, rfl⟩
    obtain ⟨p, hp, he⟩ := List.mem_map.1 this
    exact ⟨p, hp, (congrArg Prod.fst he).symm, (congrArg Prod.snd he).symm⟩
  have hrd : ∀ x ∈ es.toList, ∃ p ∈ m, x.key = .int .i64 p.1 ∧ ∃ d : DataW H, rd P k (plainElem P e) x = some (.int .i64 p.1, d) := fun x hx => by
    obtain ⟨p, hp, e1, e2⟩ := hat x hx
    obtain ⟨hw, y, hy⟩ := hf p hp
    refine ⟨p, hp, e1, .lit (.bool y), ?_⟩
    unfold rd
    rw [e1, Maps.keyOf_int_mk hk hw, e2, hy, plainElem_bool he]
    rfl
  have hrg : ∀ x ∈ es.toList, intOf (rg (H := H) P k (plainElem P e) x).1 = match x.key with | .int _ a => a | _ => 0 := fun x hx => by
    obtain ⟨p, hp, e1, d, hd⟩ := hrd x hx
    unfold rg
    rw [hd, e1]; rfl
  have hfit : Fit (H := H) P k (plainElem P e) es clock := ⟨by simpa using (hlen ▸ hm : es.toList.length ≤ maxLen), ⟨h3, h4, by rw [hkeys]; exact nodup_int h5⟩, fun x hx => by
    obtain ⟨p, _, _, d, hd⟩ := hrd x hx
    exact ⟨_, hd⟩⟩
  have hperm : ((es.toList.map (rg (H := H) P k (plainElem P e))).foldr DataW.insert []).Perm (es.toList.map (rg P k (plainElem P e))) := WideShapes.sorted_perm _
  refine ⟨_, ⟨es, clock, h1, hfit, by simpa using Nat.le_of_eq hlen, rfl⟩, ?_, ?_⟩
  · show (((es.toList.map (rg (H := H) P k (plainElem P e))).foldr DataW.insert []).map fun p => intOf p.1).Perm _
    refine (hperm.map _).trans (List.Perm.of_eq ?_)
    have e1 : (es.toList.map (rg (H := H) P k (plainElem P e))).map (fun p => intOf p.1) = (es.toList.map (·.key)).map (fun v => match v with | .int _ a => a | _ => (0 : Int)) := by
      rw [List.map_map, List.map_map]
      exact List.map_congr_left fun x hx => hrg x hx
    rw [e1, hkeys, List.map_map]
    exact List.map_id' _
  · show ((es.toList.map (rg (H := H) P k (plainElem P e))).foldr DataW.insert []).length = _
    rw [hperm.length_eq, List.length_map, hlen]
end Go.Eng
