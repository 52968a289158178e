/- Contracts of the functions over the abstract machine, part 3. No condition. -/
import Derived.Test.YtllfgbhplfhdkaaGreatC2
namespace Go.Proofs.YtllfgbhplfhdkaaGreat
open Go.Vm Go.Mo
set_option maxHeartbeats 1000000
set_option maxRecDepth 100000
set_option linter.unusedSimpArgs false
set_option linter.unusedVariables false
theorem l_heldItemS_ok (a0 : List TItem) (a1 : Int) : SoundAt Tryz.prog 136 false [[.sl 16 (a0.map TItem.row)], [.int .i64 a1]] [[.int .i64 (l_heldItemS a0 a1)]] := by
 refine sound_of Tryz.func136 rfl (by kernel_rfl) ?_
 simp [Tryz.ntmps136]
 refine okL fun k1 => ?_
 refine loopI (ι := { s : Nat × Int × Nat // l_heldItemS_1 a0 s.1 s.2.1 s.2.2 = l_heldItemS_1 a0 (a0.length + 1) a1 0 ∧ (1 ≤ s.1 ∧ a0.length < s.1 + s.2.2 ∧ s.2.2 ≤ a0.length) }) (fun s => stOf 171 [eL 0 16 a0 TItem.row, eI 1 s.1.2.1, eI 5 (↑s.1.2.2 : Int)]) (fun s => s.1.1) ⟨((a0.length + 1), a1, 0), rfl, by first | omega | (dsimp only; omega) | simp⟩ (wk_keep (by simp)) ?_
 rintro ⟨⟨n1, v1_0, v1_1⟩, e1, j1⟩
 try dsimp only at e1 j1
 obtain ⟨p1, rfl⟩ : ∃ p, n1 = p + 1 := ⟨n1 - 1, by omega⟩
 simp
 refine cC (decide ((↑v1_1 : Int) < (↑a0.length : Int))) (fun k2 h1 => ?_) (fun k2 h1 => ?_)
 ·have q1 := h1; try simp at q1
  have i1 : v1_1 < a0.length := by simpa using h1
  have m2 : a0.length ≤ 9223372036854775807 := by simpa using k2 0 _ rfl
  have w1 : IntKind.i64.wrap ((v1_1 : Int) + 1) = (v1_1 : Int) + 1 := wrap_of (by omega) (by omega)
  simp [i1, rowAt_map]
  repeat with_reducible refine sd ?_
  refine cC ((nth a0 v1_1).Id != v1_0) (fun k3 h2 => ?_) (fun k3 h2 => ?_)
  ·have q2 := h2; try simp at q2
   have x1 : l_heldItemS_1 a0 (a0.length + 1) a1 0 = .inl (-1) := by rw [← e1]; simp only [l_heldItemS_1, h1, h2, cond_t, cond_f]
   simp
   refine retRd (rv := [.tmp 4]) rfl ?_
   have f1 := l_heldItemS.eq_1 a0 a1; simp only [x1, cond_t, cond_f] at f1; simp [f1]
  ·have q2 := h2; try simp at q2
   simp [i1, rowAt_map]
   repeat with_reducible refine sd ?_
   refine cC ((nth a0 v1_1).Keep != (W (v1_0 + 1))) (fun k4 h3 => ?_) (fun k4 h3 => ?_)
   ·have q3 := h3; try simp at q3
    have x2 : l_heldItemS_1 a0 (a0.length + 1) a1 0 = .inl (-1) := by rw [← e1]; simp only [l_heldItemS_1, h1, h2, h3, cond_t, cond_f]
    simp
    refine retRd (rv := [.tmp 4]) rfl ?_
    have f2 := l_heldItemS.eq_1 a0 a1; simp only [x2, cond_t, cond_f] at f2; simp [f2]
   ·have q3 := h3; try simp at q3
    simp [i1, rowAt_map]
    repeat with_reducible refine sd ?_
    refine cC ((nth a0 v1_1).Doc.Title != (W ((W (v1_0 + 1)) + 1))) (fun k5 h4 => ?_) (fun k5 h4 => ?_)
    ·have q4 := h4; try simp at q4
     have x3 : l_heldItemS_1 a0 (a0.length + 1) a1 0 = .inl (-1) := by rw [← e1]; simp only [l_heldItemS_1, h1, h2, h3, h4, cond_t, cond_f]
     simp
     refine retRd (rv := [.tmp 4]) rfl ?_
     have f3 := l_heldItemS.eq_1 a0 a1; simp only [x3, cond_t, cond_f] at f3; simp [f3]
    ·have q4 := h4; try simp at q4
     simp [i1, rowAt_map]
     repeat with_reducible refine sd ?_
     refine cR (l_heldStringS_ok (nth a0 v1_1).Doc.Parts (W ((W ((W (v1_0 + 1)) + 1)) + 1))) ?_ (hrows := by first | (simp; done) | (simp [W, w1]; done))
     simp
     refine cC (decide ((l_heldStringS (nth a0 v1_1).Doc.Parts (W ((W ((W (v1_0 + 1)) + 1)) + 1))) < 0)) (fun k6 h5 => ?_) (fun k6 h5 => ?_)
     ·have q5 := h5; try simp at q5
      have x4 : l_heldItemS_1 a0 (a0.length + 1) a1 0 = .inl (-1) := by rw [← e1]; simp only [l_heldItemS_1, h1, h2, h3, h4, h5, cond_t, cond_f]
      simp
      refine retRd (rv := [.tmp 4]) rfl ?_
      have f4 := l_heldItemS.eq_1 a0 a1; simp only [x4, cond_t, cond_f] at f4; simp [f4]
     ·have q5 := h5; try simp at q5
      simp [i1, rowAt_map]
      repeat with_reducible refine sd ?_
      refine cR (l_heldIntS_ok (nth a0 v1_1).Doc.Salts (l_heldStringS (nth a0 v1_1).Doc.Parts (W ((W ((W (v1_0 + 1)) + 1)) + 1)))) ?_ (hrows := by first | (simp; done) | (simp [W, w1]; done))
      simp
      refine cC (decide ((l_heldIntS (nth a0 v1_1).Doc.Salts (l_heldStringS (nth a0 v1_1).Doc.Parts (W ((W ((W (v1_0 + 1)) + 1)) + 1)))) < 0)) (fun k7 h6 => ?_) (fun k7 h6 => ?_)
      ·have q6 := h6; try simp at q6
       have x5 : l_heldItemS_1 a0 (a0.length + 1) a1 0 = .inl (-1) := by rw [← e1]; simp only [l_heldItemS_1, h1, h2, h3, h4, h5, h6, cond_t, cond_f]
       simp
       refine retRd (rv := [.tmp 4]) rfl ?_
       have f5 := l_heldItemS.eq_1 a0 a1; simp only [x5, cond_t, cond_f] at f5; simp [f5]
      ·have q6 := h6; try simp at q6
       simp [i1, rowAt_map]
       repeat with_reducible refine sd ?_
       refine cC ((nth a0 v1_1).Sig.Key != (l_heldIntS (nth a0 v1_1).Doc.Salts (l_heldStringS (nth a0 v1_1).Doc.Parts (W ((W ((W (v1_0 + 1)) + 1)) + 1))))) (fun k8 h7 => ?_) (fun k8 h7 => ?_)
       ·have q7 := h7; try simp at q7
        have x6 : l_heldItemS_1 a0 (a0.length + 1) a1 0 = .inl (-1) := by rw [← e1]; simp only [l_heldItemS_1, h1, h2, h3, h4, h5, h6, h7, cond_t, cond_f]
        simp
        refine retRd (rv := [.tmp 4]) rfl ?_
        have f6 := l_heldItemS.eq_1 a0 a1; simp only [x6, cond_t, cond_f] at f6; simp [f6]
       ·have q7 := h7; try simp at q7
        simp [i1, rowAt_map]
        repeat with_reducible refine sd ?_
        refine cC ((nth a0 v1_1).Sig.Serial != (W ((l_heldIntS (nth a0 v1_1).Doc.Salts (l_heldStringS (nth a0 v1_1).Doc.Parts (W ((W ((W (v1_0 + 1)) + 1)) + 1)))) + 1))) (fun k9 h8 => ?_) (fun k9 h8 => ?_)
        ·have q8 := h8; try simp at q8
         have x7 : l_heldItemS_1 a0 (a0.length + 1) a1 0 = .inl (-1) := by rw [← e1]; simp only [l_heldItemS_1, h1, h2, h3, h4, h5, h6, h7, h8, cond_t, cond_f]
         simp
         refine retRd (rv := [.tmp 4]) rfl ?_
         have f7 := l_heldItemS.eq_1 a0 a1; simp only [x7, cond_t, cond_f] at f7; simp [f7]
        ·have q8 := h8; try simp at q8
         simp [i1, rowAt_map]
         repeat with_reducible refine sd ?_
         refine cC ((nth a0 v1_1).Sig.Method != (W ((W ((l_heldIntS (nth a0 v1_1).Doc.Salts (l_heldStringS (nth a0 v1_1).Doc.Parts (W ((W ((W (v1_0 + 1)) + 1)) + 1)))) + 1)) + 1))) (fun k10 h9 => ?_) (fun k10 h9 => ?_)
         ·have q9 := h9; try simp at q9
          have x8 : l_heldItemS_1 a0 (a0.length + 1) a1 0 = .inl (-1) := by rw [← e1]; simp only [l_heldItemS_1, h1, h2, h3, h4, h5, h6, h7, h8, h9, cond_t, cond_f]
          simp
          refine retRd (rv := [.tmp 4]) rfl ?_
          have f8 := l_heldItemS.eq_1 a0 a1; simp only [x8, cond_t, cond_f] at f8; simp [f8]
         ·have q9 := h9; try simp at q9
          simp [i1, rowAt_map]
          repeat with_reducible refine sd ?_
          refine cC ((nth a0 v1_1).Sig.Digest != (W ((W ((W ((l_heldIntS (nth a0 v1_1).Doc.Salts (l_heldStringS (nth a0 v1_1).Doc.Parts (W ((W ((W (v1_0 + 1)) + 1)) + 1)))) + 1)) + 1)) + 1))) (fun k11 h10 => ?_) (fun k11 h10 => ?_)
          ·have q10 := h10; try simp at q10
           have x9 : l_heldItemS_1 a0 (a0.length + 1) a1 0 = .inl (-1) := by rw [← e1]; simp only [l_heldItemS_1, h1, h2, h3, h4, h5, h6, h7, h8, h9, h10, cond_t, cond_f]
           simp
           refine retRd (rv := [.tmp 4]) rfl ?_
           have f9 := l_heldItemS.eq_1 a0 a1; simp only [x9, cond_t, cond_f] at f9; simp [f9]
          ·have q10 := h10; try simp at q10
           simp [i1, rowAt_map]
           repeat with_reducible refine sd ?_
           refine cC ((nth a0 v1_1).Sig.Commit != (W ((W ((W ((W ((l_heldIntS (nth a0 v1_1).Doc.Salts (l_heldStringS (nth a0 v1_1).Doc.Parts (W ((W ((W (v1_0 + 1)) + 1)) + 1)))) + 1)) + 1)) + 1)) + 1))) (fun k12 h11 => ?_) (fun k12 h11 => ?_)
           ·have q11 := h11; try simp at q11
            have x10 : l_heldItemS_1 a0 (a0.length + 1) a1 0 = .inl (-1) := by rw [← e1]; simp only [l_heldItemS_1, h1, h2, h3, h4, h5, h6, h7, h8, h9, h10, h11, cond_t, cond_f]
            simp
            refine retRd (rv := [.tmp 4]) rfl ?_
            have f10 := l_heldItemS.eq_1 a0 a1; simp only [x10, cond_t, cond_f] at f10; simp [f10]
           ·have q11 := h11; try simp at q11
            simp [i1, rowAt_map]
            repeat with_reducible refine sd ?_
            refine cC ((nth a0 v1_1).Sig.Org != (W ((W ((W ((W ((W ((l_heldIntS (nth a0 v1_1).Doc.Salts (l_heldStringS (nth a0 v1_1).Doc.Parts (W ((W ((W (v1_0 + 1)) + 1)) + 1)))) + 1)) + 1)) + 1)) + 1)) + 1))) (fun k13 h12 => ?_) (fun k13 h12 => ?_)
            ·have q12 := h12; try simp at q12
             have x11 : l_heldItemS_1 a0 (a0.length + 1) a1 0 = .inl (-1) := by rw [← e1]; simp only [l_heldItemS_1, h1, h2, h3, h4, h5, h6, h7, h8, h9, h10, h11, h12, cond_t, cond_f]
             simp
             refine retRd (rv := [.tmp 4]) rfl ?_
             have f11 := l_heldItemS.eq_1 a0 a1; simp only [x11, cond_t, cond_f] at f11; simp [f11]
            ·have q12 := h12; try simp at q12
             simp [i1, rowAt_map]
             repeat with_reducible refine sd ?_
             refine cC ((nth a0 v1_1).Sig.Before != (W ((W ((W ((W ((W ((W ((l_heldIntS (nth a0 v1_1).Doc.Salts (l_heldStringS (nth a0 v1_1).Doc.Parts (W ((W ((W (v1_0 + 1)) + 1)) + 1)))) + 1)) + 1)) + 1)) + 1)) + 1)) + 1))) (fun k14 h13 => ?_) (fun k14 h13 => ?_)
             ·have q13 := h13; try simp at q13
              have x12 : l_heldItemS_1 a0 (a0.length + 1) a1 0 = .inl (-1) := by rw [← e1]; simp only [l_heldItemS_1, h1, h2, h3, h4, h5, h6, h7, h8, h9, h10, h11, h12, h13, cond_t, cond_f]
              simp
              refine retRd (rv := [.tmp 4]) rfl ?_
              have f12 := l_heldItemS.eq_1 a0 a1; simp only [x12, cond_t, cond_f] at f12; simp [f12]
             ·have q13 := h13; try simp at q13
              simp [i1, rowAt_map]
              repeat with_reducible refine sd ?_
              refine cC ((nth a0 v1_1).Sig.After != (W ((W ((W ((W ((W ((W ((W ((l_heldIntS (nth a0 v1_1).Doc.Salts (l_heldStringS (nth a0 v1_1).Doc.Parts (W ((W ((W (v1_0 + 1)) + 1)) + 1)))) + 1)) + 1)) + 1)) + 1)) + 1)) + 1)) + 1))) (fun k15 h14 => ?_) (fun k15 h14 => ?_)
              ·have q14 := h14; try simp at q14
               have x13 : l_heldItemS_1 a0 (a0.length + 1) a1 0 = .inl (-1) := by rw [← e1]; simp only [l_heldItemS_1, h1, h2, h3, h4, h5, h6, h7, h8, h9, h10, h11, h12, h13, h14, cond_t, cond_f]
               simp
               refine retRd (rv := [.tmp 4]) rfl ?_
               have f13 := l_heldItemS.eq_1 a0 a1; simp only [x13, cond_t, cond_f] at f13; simp [f13]
              ·have q14 := h14; try simp at q14
               simp [i1, rowAt_map]
               repeat with_reducible refine sd ?_
               refine cC ((nth a0 v1_1).Sig.Mark != (W ((W ((W ((W ((W ((W ((W ((W ((l_heldIntS (nth a0 v1_1).Doc.Salts (l_heldStringS (nth a0 v1_1).Doc.Parts (W ((W ((W (v1_0 + 1)) + 1)) + 1)))) + 1)) + 1)) + 1)) + 1)) + 1)) + 1)) + 1)) + 1))) (fun k16 h15 => ?_) (fun k16 h15 => ?_)
               ·have q15 := h15; try simp at q15
                have x14 : l_heldItemS_1 a0 (a0.length + 1) a1 0 = .inl (-1) := by rw [← e1]; simp only [l_heldItemS_1, h1, h2, h3, h4, h5, h6, h7, h8, h9, h10, h11, h12, h13, h14, h15, cond_t, cond_f]
                simp
                refine retRd (rv := [.tmp 4]) rfl ?_
                have f14 := l_heldItemS.eq_1 a0 a1; simp only [x14, cond_t, cond_f] at f14; simp [f14]
               ·have q15 := h15; try simp at q15
                simp [i1, rowAt_map]
                repeat with_reducible refine sd ?_
                refine cR (l_heldPieceS_ok (nth a0 v1_1).Strand.Pieces (W ((W ((W ((W ((W ((W ((W ((W ((W ((l_heldIntS (nth a0 v1_1).Doc.Salts (l_heldStringS (nth a0 v1_1).Doc.Parts (W ((W ((W (v1_0 + 1)) + 1)) + 1)))) + 1)) + 1)) + 1)) + 1)) + 1)) + 1)) + 1)) + 1)) + 1))) ?_ (hrows := by first | (simp; done) | (simp [W, w1]; done))
                simp
                refine cC (decide ((l_heldPieceS (nth a0 v1_1).Strand.Pieces (W ((W ((W ((W ((W ((W ((W ((W ((W ((l_heldIntS (nth a0 v1_1).Doc.Salts (l_heldStringS (nth a0 v1_1).Doc.Parts (W ((W ((W (v1_0 + 1)) + 1)) + 1)))) + 1)) + 1)) + 1)) + 1)) + 1)) + 1)) + 1)) + 1)) + 1))) < 0)) (fun k17 h16 => ?_) (fun k17 h16 => ?_)
                ·have q16 := h16; try simp at q16
                 have x15 : l_heldItemS_1 a0 (a0.length + 1) a1 0 = .inl (-1) := by rw [← e1]; simp only [l_heldItemS_1, h1, h2, h3, h4, h5, h6, h7, h8, h9, h10, h11, h12, h13, h14, h15, h16, cond_t, cond_f]
                 simp
                 refine retRd (rv := [.tmp 4]) rfl ?_
                 have f15 := l_heldItemS.eq_1 a0 a1; simp only [x15, cond_t, cond_f] at f15; simp [f15]
                ·have q16 := h16; try simp at q16
                 simp [i1, rowAt_map]
                 repeat with_reducible refine sd ?_
                 refine cR (l_heldRenewalS_ok (nth a0 v1_1).Strand.Chain (l_heldPieceS (nth a0 v1_1).Strand.Pieces (W ((W ((W ((W ((W ((W ((W ((W ((W ((l_heldIntS (nth a0 v1_1).Doc.Salts (l_heldStringS (nth a0 v1_1).Doc.Parts (W ((W ((W (v1_0 + 1)) + 1)) + 1)))) + 1)) + 1)) + 1)) + 1)) + 1)) + 1)) + 1)) + 1)) + 1)))) ?_ (hrows := by first | (simp; done) | (simp [W, w1]; done))
                 simp
                 refine cC (decide ((l_heldRenewalS (nth a0 v1_1).Strand.Chain (l_heldPieceS (nth a0 v1_1).Strand.Pieces (W ((W ((W ((W ((W ((W ((W ((W ((W ((l_heldIntS (nth a0 v1_1).Doc.Salts (l_heldStringS (nth a0 v1_1).Doc.Parts (W ((W ((W (v1_0 + 1)) + 1)) + 1)))) + 1)) + 1)) + 1)) + 1)) + 1)) + 1)) + 1)) + 1)) + 1)))) < 0)) (fun k18 h17 => ?_) (fun k18 h17 => ?_)
                 ·have q17 := h17; try simp at q17
                  have x16 : l_heldItemS_1 a0 (a0.length + 1) a1 0 = .inl (-1) := by rw [← e1]; simp only [l_heldItemS_1, h1, h2, h3, h4, h5, h6, h7, h8, h9, h10, h11, h12, h13, h14, h15, h16, h17, cond_t, cond_f]
                  simp
                  refine retRd (rv := [.tmp 4]) rfl ?_
                  have f16 := l_heldItemS.eq_1 a0 a1; simp only [x16, cond_t, cond_f] at f16; simp [f16]
                 ·have q17 := h17; try simp at q17
                  simp
                  refine nxtI ⟨(p1, (l_heldRenewalS (nth a0 v1_1).Strand.Chain (l_heldPieceS (nth a0 v1_1).Strand.Pieces (W ((W ((W ((W ((W ((W ((W ((W ((W ((l_heldIntS (nth a0 v1_1).Doc.Salts (l_heldStringS (nth a0 v1_1).Doc.Parts (W ((W ((W (v1_0 + 1)) + 1)) + 1)))) + 1)) + 1)) + 1)) + 1)) + 1)) + 1)) + 1)) + 1)) + 1)))), (v1_1 + 1)), ?_, ?_⟩ (by simp) (wk_keep (by simp [w1]))
                  · rw [← e1]; simp only [l_heldItemS_1, h1, h2, h3, h4, h5, h6, h7, h8, h9, h10, h11, h12, h13, h14, h15, h16, h17, cond_t, cond_f]
                  · first | omega | (simp at *; omega)
 ·have q1 := h1; try simp at q1
  have x17 : l_heldItemS_1 a0 (a0.length + 1) a1 0 = .inr v1_0 := by rw [← e1]; simp only [l_heldItemS_1, h1, cond_t, cond_f]
  simp
  refine retRd (rv := [.tmp 4]) rfl ?_
  have f17 := l_heldItemS.eq_1 a0 a1; simp only [x17, cond_t, cond_f] at f17; simp [f17]
theorem l_heldArchiveS_ok (a0 : List TArchive) (a1 : Int) : SoundAt Tryz.prog 69 false [[.sl 2 (a0.map TArchive.row)], [.int .i64 a1]] [[.int .i64 (l_heldArchiveS a0 a1)]] := by
 refine sound_of Tryz.func69 rfl (by kernel_rfl) ?_
 simp [Tryz.ntmps69]
 refine okL fun k1 => ?_
 refine loopI (ι := { s : Nat × Int × Nat // l_heldArchiveS_1 a0 s.1 s.2.1 s.2.2 = l_heldArchiveS_1 a0 (a0.length + 1) a1 0 ∧ (1 ≤ s.1 ∧ a0.length < s.1 + s.2.2 ∧ s.2.2 ≤ a0.length) }) (fun s => stOf 31 [eL 0 2 a0 TArchive.row, eI 1 s.1.2.1, eI 5 (↑s.1.2.2 : Int)]) (fun s => s.1.1) ⟨((a0.length + 1), a1, 0), rfl, by first | omega | (dsimp only; omega) | simp⟩ (wk_keep (by simp)) ?_
 rintro ⟨⟨n1, v1_0, v1_1⟩, e1, j1⟩
 try dsimp only at e1 j1
 obtain ⟨p1, rfl⟩ : ∃ p, n1 = p + 1 := ⟨n1 - 1, by omega⟩
 simp
 refine cC (decide ((↑v1_1 : Int) < (↑a0.length : Int))) (fun k2 h1 => ?_) (fun k2 h1 => ?_)
 ·have q1 := h1; try simp at q1
  have i1 : v1_1 < a0.length := by simpa using h1
  have m2 : a0.length ≤ 9223372036854775807 := by simpa using k2 0 _ rfl
  have w1 : IntKind.i64.wrap ((v1_1 : Int) + 1) = (v1_1 : Int) + 1 := wrap_of (by omega) (by omega)
  simp [i1, rowAt_map]
  repeat with_reducible refine sd ?_
  refine cC ((nth a0 v1_1).Id != v1_0) (fun k3 h2 => ?_) (fun k3 h2 => ?_)
  ·have q2 := h2; try simp at q2
   have x1 : l_heldArchiveS_1 a0 (a0.length + 1) a1 0 = .inl (-1) := by rw [← e1]; simp only [l_heldArchiveS_1, h1, h2, cond_t, cond_f]
   simp
   refine retRd (rv := [.tmp 4]) rfl ?_
   have f1 := l_heldArchiveS.eq_1 a0 a1; simp only [x1, cond_t, cond_f] at f1; simp [f1]
  ·have q2 := h2; try simp at q2
   simp [i1, rowAt_map]
   repeat with_reducible refine sd ?_
   refine cR (l_heldItemS_ok (nth a0 v1_1).Items (W (v1_0 + 1))) ?_ (hrows := by first | (simp; done) | (simp [W, w1]; done))
   simp
   refine cC (decide ((l_heldItemS (nth a0 v1_1).Items (W (v1_0 + 1))) < 0)) (fun k4 h3 => ?_) (fun k4 h3 => ?_)
   ·have q3 := h3; try simp at q3
    have x2 : l_heldArchiveS_1 a0 (a0.length + 1) a1 0 = .inl (-1) := by rw [← e1]; simp only [l_heldArchiveS_1, h1, h2, h3, cond_t, cond_f]
    simp
    refine retRd (rv := [.tmp 4]) rfl ?_
    have f2 := l_heldArchiveS.eq_1 a0 a1; simp only [x2, cond_t, cond_f] at f2; simp [f2]
   ·have q3 := h3; try simp at q3
    simp
    refine nxtI ⟨(p1, (l_heldItemS (nth a0 v1_1).Items (W (v1_0 + 1))), (v1_1 + 1)), ?_, ?_⟩ (by simp) (wk_keep (by simp [w1]))
    · rw [← e1]; simp only [l_heldArchiveS_1, h1, h2, h3, cond_t, cond_f]
    · first | omega | (simp at *; omega)
 ·have q1 := h1; try simp at q1
  have x3 : l_heldArchiveS_1 a0 (a0.length + 1) a1 0 = .inr v1_0 := by rw [← e1]; simp only [l_heldArchiveS_1, h1, cond_t, cond_f]
  simp
  refine retRd (rv := [.tmp 4]) rfl ?_
  have f3 := l_heldArchiveS.eq_1 a0 a1; simp only [x3, cond_t, cond_f] at f3; simp [f3]
theorem l_heldWorld_ok (a0 : TWorld) (a1 : Int) : SoundAt Tryz.prog 24 false [a0.row, [.int .i64 a1]] [[.int .i64 (l_heldWorld a0 a1)]] := by
 refine sound_of Tryz.func24 rfl (by kernel_rfl) ?_
 simp [Tryz.ntmps24]
 refine cR (l_heldFrame_ok a0.Frame a1) ?_
 simp
 refine cC (decide ((l_heldFrame a0.Frame a1) < 0)) (fun k1 h1 => ?_) (fun k1 h1 => ?_)
 ·have q1 := h1; try simp at q1
  simp
  refine retRd (rv := [.tmp 4]) rfl ?_
  have f1 := l_heldWorld.eq_1 a0 a1; simp only [h1, cond_t, cond_f] at f1; simp [f1]
 ·have q1 := h1; try simp at q1
  simp
  refine cR (l_heldCertS_ok a0.Certs (l_heldFrame a0.Frame a1)) ?_
  simp
  refine cC (decide ((l_heldCertS a0.Certs (l_heldFrame a0.Frame a1)) < 0)) (fun k2 h2 => ?_) (fun k2 h2 => ?_)
  ·have q2 := h2; try simp at q2
   simp
   refine retRd (rv := [.tmp 4]) rfl ?_
   have f2 := l_heldWorld.eq_1 a0 a1; simp only [h1, h2, cond_t, cond_f] at f2; simp [f2]
  ·have q2 := h2; try simp at q2
   simp
   refine cR (l_heldIntS_ok a0.Ended (l_heldCertS a0.Certs (l_heldFrame a0.Frame a1))) ?_
   simp
   refine cC (decide ((l_heldIntS a0.Ended (l_heldCertS a0.Certs (l_heldFrame a0.Frame a1))) < 0)) (fun k3 h3 => ?_) (fun k3 h3 => ?_)
   ·have q3 := h3; try simp at q3
    simp
    refine retRd (rv := [.tmp 4]) rfl ?_
    have f3 := l_heldWorld.eq_1 a0 a1; simp only [h1, h2, h3, cond_t, cond_f] at f3; simp [f3]
   ·have q3 := h3; try simp at q3
    simp
    refine cR (l_heldArchiveS_ok a0.Archives (l_heldIntS a0.Ended (l_heldCertS a0.Certs (l_heldFrame a0.Frame a1)))) ?_
    simp
    refine cC (decide ((l_heldArchiveS a0.Archives (l_heldIntS a0.Ended (l_heldCertS a0.Certs (l_heldFrame a0.Frame a1)))) < 0)) (fun k4 h4 => ?_) (fun k4 h4 => ?_)
    ·have q4 := h4; try simp at q4
     simp
     refine retRd (rv := [.tmp 4]) rfl ?_
     have f4 := l_heldWorld.eq_1 a0 a1; simp only [h1, h2, h3, h4, cond_t, cond_f] at f4; simp [f4]
    ·have q4 := h4; try simp at q4
     simp
     refine cR (l_heldIntS_ok a0.Seqs (l_heldArchiveS a0.Archives (l_heldIntS a0.Ended (l_heldCertS a0.Certs (l_heldFrame a0.Frame a1))))) ?_
     simp
     refine cC (decide ((l_heldIntS a0.Seqs (l_heldArchiveS a0.Archives (l_heldIntS a0.Ended (l_heldCertS a0.Certs (l_heldFrame a0.Frame a1))))) < 0)) (fun k5 h5 => ?_) (fun k5 h5 => ?_)
     ·have q5 := h5; try simp at q5
      simp
      refine retRd (rv := [.tmp 4]) rfl ?_
      have f5 := l_heldWorld.eq_1 a0 a1; simp only [h1, h2, h3, h4, h5, cond_t, cond_f] at f5; simp [f5]
     ·have q5 := h5; try simp at q5
      simp
      refine cR (l_heldIntS_ok a0.Lying (l_heldIntS a0.Seqs (l_heldArchiveS a0.Archives (l_heldIntS a0.Ended (l_heldCertS a0.Certs (l_heldFrame a0.Frame a1)))))) ?_
      simp
      refine cC (decide ((l_heldIntS a0.Lying (l_heldIntS a0.Seqs (l_heldArchiveS a0.Archives (l_heldIntS a0.Ended (l_heldCertS a0.Certs (l_heldFrame a0.Frame a1)))))) < 0)) (fun k6 h6 => ?_) (fun k6 h6 => ?_)
      ·have q6 := h6; try simp at q6
       simp
       refine retRd (rv := [.tmp 4]) rfl ?_
       have f6 := l_heldWorld.eq_1 a0 a1; simp only [h1, h2, h3, h4, h5, h6, cond_t, cond_f] at f6; simp [f6]
      ·have q6 := h6; try simp at q6
       simp
       refine cR (l_heldIntS_ok a0.Forged (l_heldIntS a0.Lying (l_heldIntS a0.Seqs (l_heldArchiveS a0.Archives (l_heldIntS a0.Ended (l_heldCertS a0.Certs (l_heldFrame a0.Frame a1))))))) ?_
       simp
       refine cC (decide ((l_heldIntS a0.Forged (l_heldIntS a0.Lying (l_heldIntS a0.Seqs (l_heldArchiveS a0.Archives (l_heldIntS a0.Ended (l_heldCertS a0.Certs (l_heldFrame a0.Frame a1))))))) < 0)) (fun k7 h7 => ?_) (fun k7 h7 => ?_)
       ·have q7 := h7; try simp at q7
        simp
        refine retRd (rv := [.tmp 4]) rfl ?_
        have f7 := l_heldWorld.eq_1 a0 a1; simp only [h1, h2, h3, h4, h5, h6, h7, cond_t, cond_f] at f7; simp [f7]
       ·have q7 := h7; try simp at q7
        simp
        refine retRd (rv := [.tmp 4]) rfl ?_
        have f8 := l_heldWorld.eq_1 a0 a1; simp only [h1, h2, h3, h4, h5, h6, h7, cond_t, cond_f] at f8; simp [f8]
theorem l_FnExactStepAnswer_ok (a0 : TWorld) (a1 : Int) (t0 : Sm maxLen a0) : SoundAt Tryz.prog 7 false [a0.row, [.int .i64 a1]] [[.bool (l_FnExactStepAnswer a0 a1)]] := by
 refine sound_of Tryz.func7 rfl (by kernel_rfl) ?_
 simp [Tryz.ntmps7]
 refine cR (l_szWorld_ok a0 1048576) ?_
 simp
 refine cC (decide ((l_szWorld a0 1048576) < 0)) (fun k1 h1 => ?_) (fun k1 h1 => ?_)
 ·have q1 := h1; try simp at q1
  simp
  refine retRd (rv := [.tmp 4]) rfl ?_
  have f1 := l_FnExactStepAnswer.eq_1 a0 a1; simp only [h1, cond_t, cond_f] at f1; simp [f1]
 ·have q1 := h1; try simp at q1
  obtain ⟨u0, y0⟩ := l_szWorld_sm a0 1048576 t0 (by omega) (by omega) (by simpa using h1)
  simp
  refine cR (SoundD.rd (l_toWorld_okI a0 (sm_mono (n := 1048576) (by decide) (by simp (maxDischargeDepth := 12) [u0, l_toArchive_id, l_toArchiveS_id, l_toAuthority_id, l_toAuthorityS_id, l_toCert_id, l_toCertS_id, l_toDocument_id, l_toFrame_id, l_toIntS_id, l_toItem_id, l_toItemS_id, l_toKey_id, l_toKeyS_id, l_toMethod_id, l_toMethodS_id, l_toPiece_id, l_toPieceS_id, l_toRenewal_id, l_toRenewalS_id, l_toSignature_id, l_toStamp_id, l_toStampS_id, l_toStep_id, l_toStepS_id, l_toStrand_id, l_toStringS_id, l_toWorld_id])))) ?_
  simp
  refine cR (s_StepAnswer_ok a0 a1 (sm_mono (n := 1048576) (by decide) (by simp (maxDischargeDepth := 12) [u0, l_toArchive_id, l_toArchiveS_id, l_toAuthority_id, l_toAuthorityS_id, l_toCert_id, l_toCertS_id, l_toDocument_id, l_toFrame_id, l_toIntS_id, l_toItem_id, l_toItemS_id, l_toKey_id, l_toKeyS_id, l_toMethod_id, l_toMethodS_id, l_toPiece_id, l_toPieceS_id, l_toRenewal_id, l_toRenewalS_id, l_toSignature_id, l_toStamp_id, l_toStampS_id, l_toStep_id, l_toStepS_id, l_toStrand_id, l_toStringS_id, l_toWorld_id]))) ?_
  simp
  refine cD [] (l_toWorld_okI a0 (sm_mono (n := 1048576) (by decide) (by simp (maxDischargeDepth := 12) [u0, l_toArchive_id, l_toArchiveS_id, l_toAuthority_id, l_toAuthorityS_id, l_toCert_id, l_toCertS_id, l_toDocument_id, l_toFrame_id, l_toIntS_id, l_toItem_id, l_toItemS_id, l_toKey_id, l_toKeyS_id, l_toMethod_id, l_toMethodS_id, l_toPiece_id, l_toPieceS_id, l_toRenewal_id, l_toRenewalS_id, l_toSignature_id, l_toStamp_id, l_toStampS_id, l_toStep_id, l_toStepS_id, l_toStrand_id, l_toStringS_id, l_toWorld_id]))) ?_
  simp
  refine cD [] (i_StepAnswer_ok a0 a1 (sm_mono (n := 1048576) (by decide) (by simp (maxDischargeDepth := 12) [u0, l_toArchive_id, l_toArchiveS_id, l_toAuthority_id, l_toAuthorityS_id, l_toCert_id, l_toCertS_id, l_toDocument_id, l_toFrame_id, l_toIntS_id, l_toItem_id, l_toItemS_id, l_toKey_id, l_toKeyS_id, l_toMethod_id, l_toMethodS_id, l_toPiece_id, l_toPieceS_id, l_toRenewal_id, l_toRenewalS_id, l_toSignature_id, l_toStamp_id, l_toStampS_id, l_toStep_id, l_toStepS_id, l_toStrand_id, l_toStringS_id, l_toWorld_id]))) ?_
  simp
  refine cR (l_eqWorld_ok (i_StepAnswer a0 a1).1 (s_StepAnswer a0 a1).1) ?_
  simp
  refine cC ((!(l_eqWorld (i_StepAnswer a0 a1).1 (s_StepAnswer a0 a1).1)) || (!((i_StepAnswer a0 a1).2 == (s_StepAnswer a0 a1).2))) (fun k2 h2 => ?_) (fun k2 h2 => ?_)
  ·have q2 := h2; try simp at q2
   simp
   refine retRd (rv := [.tmp 4]) rfl ?_
   have f2 := l_FnExactStepAnswer.eq_1 a0 a1; simp only [h1, h2, cond_t, cond_f] at f2; simp [f2]
  ·have q2 := h2; try simp at q2
   simp
   refine okD fun k3 => ?_
   refine drawI mixed (by kernel_rfl) (by kernel_rfl) ?_
   simp
   refine cR (SoundD.rd (l_toWorld_okI a0 (sm_mono (n := 1048576) (by decide) (by simp (maxDischargeDepth := 12) [u0, l_toArchive_id, l_toArchiveS_id, l_toAuthority_id, l_toAuthorityS_id, l_toCert_id, l_toCertS_id, l_toDocument_id, l_toFrame_id, l_toIntS_id, l_toItem_id, l_toItemS_id, l_toKey_id, l_toKeyS_id, l_toMethod_id, l_toMethodS_id, l_toPiece_id, l_toPieceS_id, l_toRenewal_id, l_toRenewalS_id, l_toSignature_id, l_toStamp_id, l_toStampS_id, l_toStep_id, l_toStepS_id, l_toStrand_id, l_toStringS_id, l_toWorld_id])))) ?_
   simp
   refine cR (l_eqWorld_ok a0 a0) ?_
   simp
   refine cC (!(l_eqWorld a0 a0)) (fun k4 h3 => ?_) (fun k4 h3 => ?_)
   ·have q3 := h3; try simp at q3
    simp
    refine retRd (rv := [.tmp 4]) rfl ?_
    have f3 := l_FnExactStepAnswer.eq_1 a0 a1; simp only [h1, h2, h3, cond_t, cond_f] at f3; simp [f3]
   ·have q3 := h3; try simp at q3
    simp
    refine callMO (ats := [.sref 29 0 0 a0.Frame.Keys.length, .sref 29 1 0 a0.Frame.Authorities.length, .sref 29 2 0 a0.Frame.Methods.length, .d (.int .i64 a0.Frame.Liars), .d (.int .i64 a0.Frame.Now), .sref 29 5 0 a0.Certs.length, .sref 29 6 0 a0.Ended.length, .sref 29 7 0 a0.Archives.length, .sref 29 8 0 a0.Seqs.length, .sref 29 9 0 a0.Lying.length, .d (.int .i64 a0.Next), .sref 29 11 0 a0.Forged.length]) rfl rfl rfl rfl rfl rfl rfl (l_markWorld_ok a0 1) (by simp) (by simp) (by simp) (by simp) (by simp) (by simp) (by simp) (by simp) (by simp) ?_
    simp
    refine cG (fun gg => (l_eqWorld_ok (i_StepAnswer a0 a1).1 (s_StepAnswer a0 a1).1)) ?_
    simp
    refine cC (((decide ((l_markWorld a0 1).2 < 0)) || (!(l_eqWorld (i_StepAnswer a0 a1).1 (s_StepAnswer a0 a1).1))) || (!((i_StepAnswer a0 a1).2 == (s_StepAnswer a0 a1).2))) (fun k5 h4 => ?_) (fun k5 h4 => ?_)
    ·have q4 := h4; try simp at q4
     simp
     refine retRd (rv := [.tmp 4]) rfl ?_
     have f4 := l_FnExactStepAnswer.eq_1 a0 a1; simp only [h1, h2, h3, h4, cond_t, cond_f] at f4; simp [f4]
    ·have q4 := h4; try simp at q4
     simp
     refine callMO (ats := [.sref 33 0 0 (i_StepAnswer a0 a1).1.Frame.Keys.length, .sref 33 1 0 (i_StepAnswer a0 a1).1.Frame.Authorities.length, .sref 33 2 0 (i_StepAnswer a0 a1).1.Frame.Methods.length, .d (.int .i64 (i_StepAnswer a0 a1).1.Frame.Liars), .d (.int .i64 (i_StepAnswer a0 a1).1.Frame.Now), .sref 33 5 0 (i_StepAnswer a0 a1).1.Certs.length, .sref 33 6 0 (i_StepAnswer a0 a1).1.Ended.length, .sref 33 7 0 (i_StepAnswer a0 a1).1.Archives.length, .sref 33 8 0 (i_StepAnswer a0 a1).1.Seqs.length, .sref 33 9 0 (i_StepAnswer a0 a1).1.Lying.length, .d (.int .i64 (i_StepAnswer a0 a1).1.Next), .sref 33 11 0 (i_StepAnswer a0 a1).1.Forged.length]) rfl rfl rfl rfl rfl rfl rfl (l_markWorld_ok (i_StepAnswer a0 a1).1 1) (by simp) (by simp) (by simp) (by simp) (by simp) (by simp) (by simp) (by simp) (by simp) ?_
     simp
     refine cR (l_heldWorld_ok (l_markWorld (i_StepAnswer a0 a1).1 1).1 1) ?_
     simp
     refine cC (decide ((l_heldWorld (l_markWorld (i_StepAnswer a0 a1).1 1).1 1) < 0)) (fun k6 h5 => ?_) (fun k6 h5 => ?_)
     ·have q5 := h5; try simp at q5
      simp
      refine retRd (rv := [.tmp 4]) rfl ?_
      have f5 := l_FnExactStepAnswer.eq_1 a0 a1; simp only [h1, h2, h3, h4, h5, cond_t, cond_f] at f5; simp [f5]
     ·have q5 := h5; try simp at q5
      simp
      refine cC ((l_heldWorld (l_markWorld (i_StepAnswer a0 a1).1 1).1 1) != (l_markWorld (i_StepAnswer a0 a1).1 1).2) (fun k7 h6 => ?_) (fun k7 h6 => ?_)
      ·have q6 := h6; try simp at q6
       simp
       refine retRd (rv := [.tmp 4]) rfl ?_
       have f6 := l_FnExactStepAnswer.eq_1 a0 a1; simp only [h1, h2, h3, h4, h5, h6, cond_t, cond_f] at f6; simp [f6]
      ·have q6 := h6; try simp at q6
       simp
       refine cR (SoundD.rd (l_toWorld_okI a0 (sm_mono (n := 1048576) (by decide) (by simp (maxDischargeDepth := 12) [u0, l_toArchive_id, l_toArchiveS_id, l_toAuthority_id, l_toAuthorityS_id, l_toCert_id, l_toCertS_id, l_toDocument_id, l_toFrame_id, l_toIntS_id, l_toItem_id, l_toItemS_id, l_toKey_id, l_toKeyS_id, l_toMethod_id, l_toMethodS_id, l_toPiece_id, l_toPieceS_id, l_toRenewal_id, l_toRenewalS_id, l_toSignature_id, l_toStamp_id, l_toStampS_id, l_toStep_id, l_toStepS_id, l_toStrand_id, l_toStringS_id, l_toWorld_id])))) ?_
       simp
       refine cR (SoundD.rd (i_StepAnswer_ok a0 a1 (sm_mono (n := 1048576) (by decide) (by simp (maxDischargeDepth := 12) [u0, l_toArchive_id, l_toArchiveS_id, l_toAuthority_id, l_toAuthorityS_id, l_toCert_id, l_toCertS_id, l_toDocument_id, l_toFrame_id, l_toIntS_id, l_toItem_id, l_toItemS_id, l_toKey_id, l_toKeyS_id, l_toMethod_id, l_toMethodS_id, l_toPiece_id, l_toPieceS_id, l_toRenewal_id, l_toRenewalS_id, l_toSignature_id, l_toStamp_id, l_toStampS_id, l_toStep_id, l_toStepS_id, l_toStrand_id, l_toStringS_id, l_toWorld_id])))) ?_
       simp
       refine cR (l_eqWorld_ok (i_StepAnswer a0 a1).1 (s_StepAnswer a0 a1).1) ?_
       simp
       refine cC ((!(l_eqWorld (i_StepAnswer a0 a1).1 (s_StepAnswer a0 a1).1)) || (!((i_StepAnswer a0 a1).2 == (s_StepAnswer a0 a1).2))) (fun k8 h7 => ?_) (fun k8 h7 => ?_)
       ·have q7 := h7; try simp at q7
        exact absurd (h2.symm.trans h7) (by decide)
       ·have q7 := h7; try simp at q7
        simp
        refine cR (l_heldWorld_ok (l_markWorld (i_StepAnswer a0 a1).1 1).1 1) ?_
        simp
        refine cC (decide ((l_heldWorld (l_markWorld (i_StepAnswer a0 a1).1 1).1 1) < 0)) (fun k9 h8 => ?_) (fun k9 h8 => ?_)
        ·have q8 := h8; try simp at q8
         exact absurd (h5.symm.trans h8) (by decide)
        ·have q8 := h8; try simp at q8
         simp
         refine cC ((l_heldWorld (l_markWorld (i_StepAnswer a0 a1).1 1).1 1) != (l_markWorld (i_StepAnswer a0 a1).1 1).2) (fun k10 h9 => ?_) (fun k10 h9 => ?_)
         ·have q9 := h9; try simp at q9
          exact absurd (h6.symm.trans h9) (by decide)
         ·have q9 := h9; try simp at q9
          simp
          refine retRd (rv := [.tmp 4]) rfl ?_
          have f10 := l_FnExactStepAnswer.eq_1 a0 a1; simp only [h1, h2, h3, h4, h5, h6, h7, h8, h9, cond_t, cond_f] at f10; simp [f10]
end Go.Proofs.YtllfgbhplfhdkaaGreat
