/- A packet that passes: its bytes, with its sum turned (Ip4Hops); plainly. -/
import Derived.Test.YtoekncmggjhmjaaPm
import Derived.Test.YtoekncmggjhmjaaHp0
namespace Go.Proofs.Ytoekncmggjhmjaa
set_option linter.unusedVariables false

section
variable (tos id flags part proto f0 f1 f2 f3 t0 t1 t2 t3 : Int) (opts body : List UInt8)
theorem ipH_wsum (n : Int) (hl : opts.length ≤ 40) : ∃ X, 0 < X ∧ ∀ (ttl : Int) (a b : UInt8), wsum (ipH tos id flags part ttl proto f0 f1 f2 f3 t0 t1 t2 t3 opts n a b) = X + ((lo8 ttl).toNat * 256 + (lo8 proto).toNat) + (a.toNat * 256 + b.toNat) := by
  refine ⟨(lo8 (64 + (20 + (opts.length : Int)) / 4)).toNat * 256 + (lo8 tos).toNat + ((lo8 (n / 256)).toNat * 256 + (lo8 n).toNat) + ((lo8 (id / 256)).toNat * 256 + (lo8 id).toNat) + ((lo8 ((flags * 8192 + part) / 256)).toNat * 256 + (lo8 (flags * 8192 + part)).toNat) +
    (((UInt8.ofNat (Int.toNat f0)).toNat * 256 + (UInt8.ofNat (Int.toNat f1)).toNat) + ((UInt8.ofNat (Int.toNat f2)).toNat * 256 + (UInt8.ofNat (Int.toNat f3)).toNat) + ((UInt8.ofNat (Int.toNat t0)).toNat * 256 + (UInt8.ofNat (Int.toNat t1)).toNat) + ((UInt8.ofNat (Int.toNat t2)).toNat * 256 + (UInt8.ofNat (Int.toNat t3)).toNat) + wsum opts), ?_, fun ttl a b => ?_⟩
  · have := lo8_toNat (64 + (20 + (opts.length : Int)) / 4)
    omega
  · simp only [ipH, wsum]
    omega

theorem turn_mod (S o n X : Nat) (hS : S ≤ 65535) (ho : o ≤ 65535) (hn : n ≤ 65535) (h : (X + o + S) % 65535 = 0) : (X + n + turnN S o n) % 65535 = 0 := by
  unfold turnN
  have h1 := add16_mod (65535 - S) (65535 - o) (by omega) (by omega)
  have l1 := add16_le (65535 - S) (65535 - o) (by omega) (by omega)
  have h2 := add16_mod (add16 (65535 - S) (65535 - o)) n l1 hn
  have l2 := add16_le (add16 (65535 - S) (65535 - o)) n l1 hn
  generalize add16 (65535 - S) (65535 - o) = A at *
  generalize add16 A n = B at *
  omega

theorem hop_sum (n ttl : Int) (hl : opts.length ≤ 40) (a b a' b' : UInt8) (h : ofL (ipH tos id flags part ttl proto f0 f1 f2 f3 t0 t1 t2 t3 opts n a b) = 0)
    (hs : a'.toNat * 256 + b'.toNat = turnN (a.toNat * 256 + b.toNat) ((lo8 ttl).toNat * 256 + (lo8 proto).toNat) ((lo8 (ttl - 1)).toNat * 256 + (lo8 proto).toNat)) :
    ofL (ipH tos id flags part (ttl - 1) proto f0 f1 f2 f3 t0 t1 t2 t3 opts n a' b') = 0 := by
  obtain ⟨X, hX, hw⟩ := ipH_wsum tos id flags part proto f0 f1 f2 f3 t0 t1 t2 t3 opts n hl
  rw [ofL_zero, hw] at h ⊢
  have := a.toNat_lt
  have := b.toNat_lt
  have := (lo8 ttl).toNat_lt
  have := (lo8 (ttl - 1)).toNat_lt
  have := (lo8 proto).toNat_lt
  have := turn_mod (a.toNat * 256 + b.toNat) ((lo8 ttl).toNat * 256 + (lo8 proto).toNat) ((lo8 (ttl - 1)).toNat * 256 + (lo8 proto).toNat) X (by omega) (by omega) (by omega) h.1
  rw [hs]
  exact ⟨this, by omega⟩

/-- these are the packet's bytes, with this time left -/
def hpB (ttl : Int) (ys : List UInt8) : Prop := ∃ a b : UInt8, ys = ipH tos id flags part ttl proto f0 f1 f2 f3 t0 t1 t2 t3 opts (20 + (opts.length : Int) + (body.length : Int)) a b ++ body ∧ ofL (ipH tos id flags part ttl proto f0 f1 f2 f3 t0 t1 t2 t3 opts (20 + (opts.length : Int) + (body.length : Int)) a b) = 0

structure HpF (ttl : Int) (ys : List UInt8) : Prop where
  len : ys.length = 20 + opts.length + body.length
  E : sizesE ys ys.length = 0
  A : sizesA ys ys.length = ys.length
  H : sizesH ys ys.length = 20 + opts.length
  f4 : ((at16 ys 4 : Nat) : Int) = id
  f6 : ((at16 ys 6 : Nat) : Int) = flags * 8192 + part
  f1 : ((ys.getD 1 0).toNat : Int) = tos
  f8 : ((ys.getD 8 0).toNat : Int) = ttl
  f9 : ((ys.getD 9 0).toNat : Int) = proto
  d : List.drop 20 ys = opts ++ body

theorem hp_facts (ttl : Int) (ys : List UInt8) (h : hpB tos id flags part proto f0 f1 f2 f3 t0 t1 t2 t3 opts body ttl ys) (hg : goodP tos id flags part ttl proto opts.length) (hb : body.length ≤ 1480) : HpF tos id flags part proto opts body ttl ys := by
  obtain ⟨a, b, rfl, hs⟩ := h
  obtain ⟨g0, g1, g2, g3, g4, g5, g6, g7⟩ := hg
  have hh := ipH_hdr tos id flags part ttl proto f0 f1 f2 f3 t0 t1 t2 t3 opts (20 + (opts.length : Int) + (body.length : Int)) a b body g6 g7
  have ht := ipH_take tos id flags part ttl proto f0 f1 f2 f3 t0 t1 t2 t3 opts (20 + (opts.length : Int) + (body.length : Int)) a b body
  have hn := ipH_n tos id flags part ttl proto f0 f1 f2 f3 t0 t1 t2 t3 opts (20 + (opts.length : Int) + (body.length : Int)) a b body (by omega)
  have h0 := ipH_b0 tos id flags part ttl proto f0 f1 f2 f3 t0 t1 t2 t3 opts (20 + (opts.length : Int) + (body.length : Int)) a b body g6
  have i4 := ipH_id tos id flags part ttl proto f0 f1 f2 f3 t0 t1 t2 t3 opts (20 + (opts.length : Int) + (body.length : Int)) a b body g1
  have i6 := ipH_x tos id flags part ttl proto f0 f1 f2 f3 t0 t1 t2 t3 opts (20 + (opts.length : Int) + (body.length : Int)) a b body g2 g3
  have i1 := ipH_tos tos id flags part ttl proto f0 f1 f2 f3 t0 t1 t2 t3 opts (20 + (opts.length : Int) + (body.length : Int)) a b body g0
  have i8 := ipH_ttl tos id flags part ttl proto f0 f1 f2 f3 t0 t1 t2 t3 opts (20 + (opts.length : Int) + (body.length : Int)) a b body g4
  have i9 := ipH_proto tos id flags part ttl proto f0 f1 f2 f3 t0 t1 t2 t3 opts (20 + (opts.length : Int) + (body.length : Int)) a b body g5
  have hl : (ipH tos id flags part ttl proto f0 f1 f2 f3 t0 t1 t2 t3 opts (20 + (opts.length : Int) + (body.length : Int)) a b ++ body).length = 20 + opts.length + body.length := by rw [List.length_append, ipH_len]
  have hd : List.drop 20 (ipH tos id flags part ttl proto f0 f1 f2 f3 t0 t1 t2 t3 opts (20 + (opts.length : Int) + (body.length : Int)) a b ++ body) = opts ++ body := rfl
  generalize ipH tos id flags part ttl proto f0 f1 f2 f3 t0 t1 t2 t3 opts (20 + (opts.length : Int) + (body.length : Int)) a b ++ body = ys at *
  have zE : sizesE ys ys.length = 0 := sizesE_zero _ _ (by omega) (by omega) (by omega) (by omega) (by rw [hh, ht]; exact hs) (by omega) (by omega)
  exact ⟨hl, zE, by rw [sizesA_zero _ _ zE]; omega, by rw [sizesH_zero _ _ zE, hh], i4, i6, i1, i8, i9, hd⟩

theorem hp_next (ttl : Int) (ys : List UInt8) (h : hpB tos id flags part proto f0 f1 f2 f3 t0 t1 t2 t3 opts body ttl ys) (hg : goodP tos id flags part ttl proto opts.length) (h2 : 1 < ttl) : ∃ us zs : List UInt8,
    List.set ys 8 (lo8 (ttl - 1)) = us ∧ us.length = ys.length ∧ hpB tos id flags part proto f0 f1 f2 f3 t0 t1 t2 t3 opts body (ttl - 1) zs ∧
    zs = List.set (List.set us 10 (lo8 ((turnN ((ys.getD 10 0).toNat * 256 + (ys.getD 11 0).toNat) (pairN ys 8) (pairN us 8) : Nat) / 256))) 11 (lo8 (turnN ((ys.getD 10 0).toNat * 256 + (ys.getD 11 0).toNat) (pairN ys 8) (pairN us 8) : Nat)) := by
  obtain ⟨a, b, rfl, hs⟩ := h
  obtain ⟨g0, g1, g2, g3, g4, g5, g6, g7⟩ := hg
  let S := turnN (a.toNat * 256 + b.toNat) ((lo8 ttl).toNat * 256 + (lo8 proto).toNat) ((lo8 (ttl - 1)).toNat * 256 + (lo8 proto).toNat)
  have hS : S ≤ 65535 := by show 65535 - _ ≤ 65535; omega
  refine ⟨_, _, rfl, by rw [List.length_set], ⟨lo8 ((S : Int) / 256), lo8 (S : Int), rfl, ?_⟩, ?_⟩
  · refine hop_sum tos id flags part proto f0 f1 f2 f3 t0 t1 t2 t3 opts _ ttl g6 a b _ _ hs ?_
    rw [show turnN (a.toNat * 256 + b.toNat) ((lo8 ttl).toNat * 256 + (lo8 proto).toNat) ((lo8 (ttl - 1)).toNat * 256 + (lo8 proto).toNat) = S from rfl]
    have e1 := lo8_toNat ((S : Int) / 256)
    have e2 := lo8_toNat (S : Int)
    omega
  · rfl
end
end Go.Proofs.Ytoekncmggjhmjaa
