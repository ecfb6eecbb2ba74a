/- An agenda and the document's sorted list. Plain. -/
import Derived.Test.YthepkabfiooabaaDoorTO
namespace Go.Proofs.YthepkabfiooabaaDoor
open Go.RowKit

def Sorted (w : List Due) : Prop := w.Pairwise fun x y => dueLess x y = true
theorem Sorted.nodup {w : List Due} (h : Sorted w) : w.Nodup := by
  rw [List.nodup_iff_pairwise_ne]
  exact h.imp fun {a b} hab e => by rw [e, due_irrefl] at hab; cases hab
structure Rl (l : List Due) (M : Mp) (w : List Due) : Prop where
  ok : AgOk l M
  so : Sorted w
  mem : ∀ x, x ∈ l ↔ x ∈ w
theorem Rl.nil : Rl [] [] [] := ⟨.nil, .nil, fun _ => Iff.rfl⟩
theorem Rl.perm {l w : List Due} {M : Mp} (h : Rl l M w) : l.Perm w := (List.perm_ext_iff_of_nodup h.ok.nodup h.so.nodup).2 h.mem
theorem Rl.len {l w : List Due} {M : Mp} (h : Rl l M w) : l.length = w.length := h.perm.length_eq
theorem Rl.sort {l w : List Due} {M : Mp} (h : Rl l M w) : sortD l = w := by
  have h3 : (sortD l).Pairwise fun x y => (!dueLess y x) = true := List.pairwise_mergeSort (fun a b c hab hbc => by
    simp only [Bool.not_eq_true'] at *
    exact le_trans' hab hbc) (fun a b => by
    cases h1 : dueLess b a
    · rfl
    · simp [due_asymm h1]) l
  refine List.Perm.eq_of_pairwise (le := fun x y => (!dueLess y x) = true) ?_ h3 (h.so.imp fun {a b} h => by simp [due_asymm h]) ((List.mergeSort_perm _ _).trans h.perm)
  intro a b _ _ h1 h2
  simp only [Bool.not_eq_true'] at h1 h2
  exact due_anti h2 h1
theorem keep_iff (k : Wh) (d : Due) : keepB k d = true ↔ keyD d ≠ k := by
  obtain ⟨n, s⟩ := k
  unfold keepB keyD
  simp only [Bool.or_eq_true, bne_iff_ne, ne_eq, Bool.not_eq_true', beq_eq_false_iff_ne, Prod.mk.injEq]
  exact Classical.not_and_iff_not_or_not.symm
theorem drop_mem {w : List Due} {k : Wh} {x : Due} : x ∈ dropW w k ↔ x ∈ w ∧ keyD x ≠ k := by
  unfold dropW
  rw [List.mem_filter, keep_iff]
theorem drop_sorted {w : List Due} (h : Sorted w) (k : Wh) : Sorted (dropW w k) := List.Pairwise.filter _ h
theorem drop_was {w : List Due} {k : Wh} : (dropW w k).length < w.length ↔ ∃ x ∈ w, keyD x = k := by
  unfold dropW
  rw [List.length_filter_lt_length_iff_exists]
  constructor
  · rintro ⟨x, h1, h2⟩
    refine ⟨x, h1, ?_⟩
    rw [keep_iff] at h2
    exact Classical.not_not.1 h2
  · rintro ⟨x, h1, h2⟩
    refine ⟨x, h1, ?_⟩
    rw [keep_iff]
    exact fun h => h h2
theorem ins_false {d e : Due} {w : List Due} : ins d false (e :: w) = if dueLess d e = true then d :: e :: w else e :: ins d false w := by
  simp only [ins, Bool.not_false, Bool.true_and, ins_true]
theorem ins_mem {d x : Due} : ∀ {w : List Due}, x ∈ ins d false w ↔ x = d ∨ x ∈ w
  | [] => by simp [ins]
  | e :: w => by
    have ih := ins_mem (d := d) (x := x) (w := w)
    rw [ins_false]
    split
    · simp
    · simp only [List.mem_cons, ih]
      constructor
      · rintro (h | h | h) <;> simp [h]
      · rintro (h | h | h) <;> simp [h]
theorem ins_sorted {d : Due} : ∀ {w : List Due}, Sorted w → d ∉ w → Sorted (ins d false w)
  | [], _, _ => by simp [ins, Sorted]
  | e :: w, h, hd => by
    obtain ⟨h1, h2⟩ := List.pairwise_cons.1 h
    rw [ins_false]
    split
    · rename_i hlt
      refine List.pairwise_cons.2 ⟨fun x hx => ?_, h⟩
      rcases List.mem_cons.1 hx with rfl | hx
      · exact hlt
      · exact due_trans hlt (h1 x hx)
    · rename_i hlt
      have hlt : dueLess d e = false := by simpa using hlt
      have hed : dueLess e d = true := by
        rcases due_three d e with ⟨k, _, _⟩ | ⟨_, k, _⟩ | ⟨_, _, k⟩
        · rw [hlt] at k; cases k
        · exact k
        · exact absurd (sameD_true k) fun e2 => hd (by rw [e2]; simp)
      refine List.pairwise_cons.2 ⟨fun x hx => ?_, ins_sorted h2 fun h => hd (List.mem_cons_of_mem _ h)⟩
      rcases ins_mem.1 hx with rfl | hx
      · exact hed
      · exact h1 x hx
theorem add_sorted {w : List Due} (h : Sorted w) (d : Due) : Sorted (addW (dropW w (keyD d)) d) := ins_sorted (drop_sorted h _) fun hm => (drop_mem.1 hm).2 rfl
theorem add_mem {w : List Due} {d x : Due} : x ∈ addW (dropW w (keyD d)) d ↔ x = d ∨ (x ∈ w ∧ keyD x ≠ keyD d) := by
  unfold addW
  rw [ins_mem, drop_mem]
theorem ins_len (d : Due) : ∀ w, (ins d false w).length = w.length + 1
  | [] => rfl
  | e :: w => by
    rw [ins_false]
    split
    · simp
    · simp [ins_len d w]
theorem putW_len (w : List Due) (d : Due) : (putW w d).1.length ≤ w.length + 1 := by
  unfold putW
  split
  · split
    · simp
    · simp only [addW, ins_len]
      have := List.length_filter_le (keepB (keyD d)) w
      unfold dropW
      omega
  · simp
theorem Rl.look {l w : List Due} {M : Mp} (h : Rl l M w) (k : Wh) : (lookM k M).isSome = decide ((dropW w k).length < w.length) := by
  cases hk : lookM k M with
  | none =>
    have := h.ok.c.none_.1 hk
    symm
    rw [Option.isSome_none, decide_eq_false_iff_not, drop_was]
    rintro ⟨x, h1, h2⟩
    exact this x ((h.mem x).2 h1) h2
  | some i =>
    obtain ⟨x, n, h1, h2, _⟩ := (h.ok.c.at_ _ _).1 hk
    symm
    rw [Option.isSome_some, decide_eq_true_iff, drop_was]
    exact ⟨x, (h.mem x).1 (List.mem_of_getElem? h1), h2⟩
/-- What Put tells, by the document's words. -/
def Told (ad : Nat → Addr) (r : AV) (is : Bool) (code : Int) : Prop := (code = 0 ∧ r = .tuple [B is, nilE]) ∨ (code = 8 ∧ r = .tuple [B is, errV (-1) (sentV (ad 8))]) ∨ (code = 1 ∧ r = .tuple [B is, errV (-1) (errV (-1) (sentV (ad 1)))])
theorem Rl.put {l w : List Due} {M : Mp} (ad : Nat → Addr) (h : Rl l M w) (d : Due) :
    Rl (putA ad l M d).1.1 (putA ad l M d).1.2 (putW w d).1 ∧ Told ad (putA ad l M d).2 (putW w d).2.1 (putW w d).2.2 := by
  have hl := h.look (keyD d)
  have hlen := h.len
  unfold putA putW
  by_cases hr : rightD d = true
  · rw [if_pos hr, if_pos hr]
    cases hk : lookM (keyD d) M with
    | some i =>
      rw [hk, Option.isSome_some] at hl
      obtain ⟨d0, n, h1, h2, rfl⟩ := (h.ok.c.at_ _ _).1 hk
      simp only [← hl, Bool.not_true, Bool.false_and, Bool.false_eq_true, if_false, Int.toNat_natCast]
      obtain ⟨k1, k2, _⟩ := set_spec h.ok h1 h2
      refine ⟨⟨k1, add_sorted h.so d, fun x => ?_⟩, .inl ⟨rfl, rfl⟩⟩
      rw [k2, add_mem, h.mem]
    | none =>
      rw [hk, Option.isSome_none] at hl
      simp only [← hl, Bool.not_false, Bool.true_and, decide_eq_true_eq]
      by_cases hlt : l.length < 1024
      · rw [if_pos hlt, if_neg (by omega)]
        obtain ⟨k1, k2, _⟩ := add_spec h.ok hk
        refine ⟨⟨k1, add_sorted h.so d, fun x => ?_⟩, .inl ⟨rfl, rfl⟩⟩
        rw [k2, add_mem, h.mem]
      · rw [if_neg hlt, if_pos (by omega)]
        exact ⟨h, .inr (.inl ⟨rfl, rfl⟩)⟩
  · rw [if_neg hr, if_neg hr]
    exact ⟨h, .inr (.inr ⟨rfl, rfl⟩)⟩
theorem putW_mem {w : List Due} {d x : Due} (hx : x ∈ (putW w d).1) : x = d ∧ rightD d = true ∨ x ∈ w := by
  unfold putW at hx
  split at hx
  · rename_i hr
    split at hx
    · exact .inr hx
    · rcases add_mem.1 hx with h | h
      · exact .inl ⟨h, hr⟩
      · exact .inr h.1
  · exact .inr hx
theorem putA_ok {l : List Due} {M : Mp} (ad : Nat → Addr) (h : AgOk l M) (d : Due) (hr : rightD d = true) (hl : l.length < 1024) :
    AgOk (putA ad l M d).1.1 (putA ad l M d).1.2 ∧ (∀ x, x ∈ (putA ad l M d).1.1 ↔ x = d ∨ (x ∈ l ∧ keyD x ≠ keyD d)) ∧ (putA ad l M d).1.1.length ≤ l.length + 1 := by
  unfold putA
  rw [if_pos hr]
  cases hk : lookM (keyD d) M with
  | some i =>
    obtain ⟨d0, n, h1, h2, rfl⟩ := (h.c.at_ _ _).1 hk
    simp only [Int.toNat_natCast]
    obtain ⟨k1, k2, k3⟩ := set_spec h h1 h2
    exact ⟨k1, k2, by omega⟩
  | none =>
    simp only [if_pos hl]
    obtain ⟨k1, k2, k3⟩ := add_spec h hk
    exact ⟨k1, k2, by omega⟩
end Go.Proofs.YthepkabfiooabaaDoor
