/- Package salsa as code of the abstract machine. -/
import Derived.Test.YtebccciodmlikaaKF
namespace PK
open Go PAbs

noncomputable def c_salsa_Quarter : AFn := AFn.mk 40 [.tmp 8, .tmp 9, .tmp 10, .tmp 11]
  (.seq (.region
      [⟨some 8, .mv (.k (.c (.int .u32 0))), none⟩,
        ⟨some 9, .mv (.k (.c (.int .u32 0))), none⟩,
        ⟨some 10, .mv (.k (.c (.int .u32 0))), none⟩,
        ⟨some 11, .mv (.k (.c (.int .u32 0))), none⟩])
  (.seq (.region
      [⟨some 12, .mv (.t 1), none⟩,
        ⟨some 13, .mv (.t 0), none⟩,
        ⟨some 14, .mv (.t 3), none⟩,
        ⟨some 15, .bin .add (.t 13) (.t 14), none⟩,
        ⟨some 16, .call F_words_Left32 [.t 15, .k (.c (.int .i64 7))], none⟩,
        ⟨some 17, .bin .xor (.t 12) (.t 16), none⟩,
        ⟨some 1, .mv (.t 17), none⟩])
  (.seq (.region
      [⟨some 18, .mv (.t 2), none⟩,
        ⟨some 19, .mv (.t 1), none⟩,
        ⟨some 20, .mv (.t 0), none⟩,
        ⟨some 21, .bin .add (.t 19) (.t 20), none⟩,
        ⟨some 22, .call F_words_Left32 [.t 21, .k (.c (.int .i64 9))], none⟩,
        ⟨some 23, .bin .xor (.t 18) (.t 22), none⟩,
        ⟨some 2, .mv (.t 23), none⟩])
  (.seq (.region
      [⟨some 24, .mv (.t 3), none⟩,
        ⟨some 25, .mv (.t 2), none⟩,
        ⟨some 26, .mv (.t 1), none⟩,
        ⟨some 27, .bin .add (.t 25) (.t 26), none⟩,
        ⟨some 28, .call F_words_Left32 [.t 27, .k (.c (.int .i64 13))], none⟩,
        ⟨some 29, .bin .xor (.t 24) (.t 28), none⟩,
        ⟨some 3, .mv (.t 29), none⟩])
  (.seq (.region
      [⟨some 30, .mv (.t 0), none⟩,
        ⟨some 31, .mv (.t 3), none⟩,
        ⟨some 32, .mv (.t 2), none⟩,
        ⟨some 33, .bin .add (.t 31) (.t 32), none⟩,
        ⟨some 34, .call F_words_Left32 [.t 33, .k (.c (.int .i64 18))], none⟩,
        ⟨some 35, .bin .xor (.t 30) (.t 34), none⟩,
        ⟨some 0, .mv (.t 35), none⟩])
  (.seq (.region
      [⟨some 36, .mv (.t 0), none⟩,
        ⟨some 37, .mv (.t 1), none⟩,
        ⟨some 38, .mv (.t 2), none⟩,
        ⟨some 39, .mv (.t 3), none⟩,
        ⟨some 8, .mv (.t 36), none⟩,
        ⟨some 9, .mv (.t 37), none⟩,
        ⟨some 10, .mv (.t 38), none⟩,
        ⟨some 11, .mv (.t 39), none⟩])
  (.ret)))))))
theorem t_salsa_Quarter : A F_salsa_Quarter = some c_salsa_Quarter := by kernel_rfl

noncomputable def c_salsa_Core : AFn := AFn.mk 35 [.cellN 4 16, .tmp 5]
  (.seq (.region
      [⟨some 2, .box (.t 0), none⟩,
        ⟨some 4, .alloc (rep 16 (.int .u32 0)), none⟩,
        ⟨some 5, .mv (.k (.c (.int .i64 0))), none⟩])
  (.seq (.seq (.region
        [⟨some 8, .mv (.t 1), none⟩,
          ⟨some 9, .bin .lss (.t 8) (.k (.c (.int .i64 0))), none⟩,
          ⟨some 10, .mv (.t 9), none⟩,
          ⟨some 11, .mv (.t 1), some (10, false)⟩,
          ⟨some 12, .bin .gtr (.t 11) (.k (.c (.int .i64 100))), some (10, false)⟩,
          ⟨some 13, .pick (.t 10) (.k (.c (.bool true))) (.t 12), none⟩])
    (.cond (.t 13)
      (.seq (.region
          [⟨some 14, .build (rep 16 (.int .u32 0)) [], none⟩,
            ⟨none, .store 16 (.t 4) (.t 14), none⟩,
            ⟨some 5, .mv (.k (.c (.int .i64 1))), none⟩])
      (.ret))
      (.skip)))
  (.seq (.region
      [⟨some 15, .loadN 16 (.t 2), none⟩,
        ⟨some 6, .alloc (rep 16 (.int .u32 0)), none⟩,
        ⟨none, .store 16 (.t 6) (.t 15), none⟩])
  (.seq (.seq (.region
        [⟨some 16, .mv (.t 1), none⟩,
          ⟨some 17, .mv (.k (.c (.int .i64 0))), none⟩])
    (.block 0
      (.loop
        (.seq (.region
            [⟨some 18, .bin .lss (.t 17) (.t 16), none⟩])
        (.seq (.cond (.t 18)
            (.skip)
            (.exit 0))
        (.seq (.block 1
            (.region
              [⟨some 19, .loadN 16 (.t 6), none⟩,
                ⟨some 20, .call F_salsa_Double [.t 19], none⟩,
                ⟨none, .store 16 (.t 6) (.t 20), none⟩]))
        (.region
          [⟨some 21, .bin .add (.t 17) (.k (.c (.int .i64 1))), none⟩,
            ⟨some 17, .mv (.t 21), none⟩])))))))
  (.seq (.seq (.region
        [⟨some 22, .mv (.k (.c (.int .i64 0))), none⟩])
    (.block 2
      (.loop
        (.seq (.region
            [⟨some 23, .bin .lss (.t 22) (.k (.c (.int .i64 16))), none⟩])
        (.seq (.cond (.t 23)
            (.skip)
            (.exit 2))
        (.seq (.block 3
            (.seq (.region
                [⟨some 24, .mv (.t 22), none⟩,
                  ⟨some 7, .mv (.t 24), none⟩])
            (.draw
              [⟨some 25, .mv (.t 7), none⟩,
                ⟨some 26, .idxArr 16 1 (.t 6) (.t 25), none⟩,
                ⟨some 27, .load1 (.t 26), none⟩,
                ⟨some 28, .mv (.t 7), none⟩,
                ⟨some 29, .idxArr 16 1 (.t 2) (.t 28), none⟩,
                ⟨some 30, .load1 (.t 29), none⟩]
              [⟨some 31, .bin .add (.t 27) (.t 30), none⟩,
                ⟨some 32, .idxArr 16 1 (.t 6) (.t 25), none⟩,
                ⟨none, .store 1 (.t 32) (.t 31), none⟩])))
        (.region
          [⟨some 33, .bin .add (.t 22) (.k (.c (.int .i64 1))), none⟩,
            ⟨some 22, .mv (.t 33), none⟩])))))))
  (.seq (.region
      [⟨some 34, .loadN 16 (.t 6), none⟩,
        ⟨none, .store 16 (.t 4) (.t 34), none⟩,
        ⟨some 5, .mv (.k (.c (.int .i64 0))), none⟩])
  (.ret)))))))
theorem t_salsa_Core : A F_salsa_Core = some c_salsa_Core := by kernel_rfl

noncomputable def c_salsa_Eight : AFn := AFn.mk 11 [.cellN 2 16]
  (.seq (.region
      [⟨some 1, .box (.t 0), none⟩,
        ⟨some 2, .alloc (rep 16 (.int .u32 0)), none⟩])
  (.seq (.region
      [⟨some 6, .loadN 16 (.t 1), none⟩,
        ⟨some 7, .call F_salsa_Core [.t 6, .k (.c (.int .i64 4))], none⟩,
        ⟨some 5, .mv (.t 7), none⟩,
        ⟨some 8, .extract (.t 5) 0, none⟩,
        ⟨some 9, .extract (.t 5) 1, none⟩,
        ⟨some 3, .alloc (rep 16 (.int .u32 0)), none⟩,
        ⟨none, .store 16 (.t 3) (.t 8), none⟩,
        ⟨some 4, .mv (.t 9), none⟩])
  (.seq (.region
      [⟨some 10, .loadN 16 (.t 3), none⟩,
        ⟨none, .store 16 (.t 2) (.t 10), none⟩])
  (.ret))))
theorem t_salsa_Eight : A F_salsa_Eight = some c_salsa_Eight := by kernel_rfl

noncomputable def c_salsa_Double : AFn := AFn.mk 49 [.cellN 2 16]
  (.seq (.region
      [⟨some 1, .box (.t 0), none⟩,
        ⟨some 2, .alloc (rep 16 (.int .u32 0)), none⟩])
  (.seq (.seq (.region
        [⟨some 9, .call F_salsa_lines [], none⟩,
          ⟨some 10, .mv (.k (.c (.int .i64 0))), none⟩])
    (.block 0
      (.loop
        (.seq (.region
            [⟨some 11, .bin .lss (.t 10) (.k (.c (.int .i64 8))), none⟩])
        (.seq (.cond (.t 11)
            (.skip)
            (.exit 0))
        (.seq (.block 1
            (.seq (.region
                [⟨some 12, .elemN 8 4 (.t 9) (.t 10), none⟩,
                  ⟨some 4, .alloc (rep 4 (.int .i64 0)), none⟩,
                  ⟨none, .store 4 (.t 4) (.t 12), none⟩])
            (.seq (.draw
                [⟨some 13, .idxArr 4 1 (.t 4) (.k (.c (.int .i64 0))), none⟩,
                  ⟨some 14, .load1 (.t 13), none⟩,
                  ⟨some 15, .idxArr 4 1 (.t 4) (.k (.c (.int .i64 1))), none⟩,
                  ⟨some 16, .load1 (.t 15), none⟩,
                  ⟨some 17, .idxArr 4 1 (.t 4) (.k (.c (.int .i64 2))), none⟩,
                  ⟨some 18, .load1 (.t 17), none⟩,
                  ⟨some 19, .idxArr 4 1 (.t 4) (.k (.c (.int .i64 3))), none⟩,
                  ⟨some 20, .load1 (.t 19), none⟩,
                  ⟨some 5, .mv (.t 14), none⟩,
                  ⟨some 6, .mv (.t 16), none⟩,
                  ⟨some 7, .mv (.t 18), none⟩]
                [⟨some 8, .mv (.t 20), none⟩])
            (.draw
              [⟨some 22, .mv (.t 5), none⟩,
                ⟨some 23, .mv (.t 6), none⟩,
                ⟨some 24, .mv (.t 7), none⟩,
                ⟨some 25, .mv (.t 8), none⟩,
                ⟨some 26, .mv (.t 5), none⟩,
                ⟨some 27, .idxArr 16 1 (.t 1) (.t 26), none⟩,
                ⟨some 28, .load1 (.t 27), none⟩,
                ⟨some 29, .mv (.t 6), none⟩,
                ⟨some 30, .idxArr 16 1 (.t 1) (.t 29), none⟩,
                ⟨some 31, .load1 (.t 30), none⟩,
                ⟨some 32, .mv (.t 7), none⟩,
                ⟨some 33, .idxArr 16 1 (.t 1) (.t 32), none⟩,
                ⟨some 34, .load1 (.t 33), none⟩,
                ⟨some 35, .mv (.t 8), none⟩,
                ⟨some 36, .idxArr 16 1 (.t 1) (.t 35), none⟩,
                ⟨some 37, .load1 (.t 36), none⟩,
                ⟨some 38, .call F_salsa_Quarter [.t 28, .t 31, .t 34, .t 37], none⟩]
              [⟨some 21, .mv (.t 38), none⟩,
                ⟨some 39, .extract (.t 21) 0, none⟩,
                ⟨some 40, .extract (.t 21) 1, none⟩,
                ⟨some 41, .extract (.t 21) 2, none⟩,
                ⟨some 42, .extract (.t 21) 3, none⟩,
                ⟨some 43, .idxArr 16 1 (.t 1) (.t 22), none⟩,
                ⟨none, .store 1 (.t 43) (.t 39), none⟩,
                ⟨some 44, .idxArr 16 1 (.t 1) (.t 23), none⟩,
                ⟨none, .store 1 (.t 44) (.t 40), none⟩,
                ⟨some 45, .idxArr 16 1 (.t 1) (.t 24), none⟩,
                ⟨none, .store 1 (.t 45) (.t 41), none⟩,
                ⟨some 46, .idxArr 16 1 (.t 1) (.t 25), none⟩,
                ⟨none, .store 1 (.t 46) (.t 42), none⟩]))))
        (.region
          [⟨some 47, .bin .add (.t 10) (.k (.c (.int .i64 1))), none⟩,
            ⟨some 10, .mv (.t 47), none⟩])))))))
  (.seq (.region
      [⟨some 48, .loadN 16 (.t 1), none⟩,
        ⟨none, .store 16 (.t 2) (.t 48), none⟩])
  (.ret))))
theorem t_salsa_Double : A F_salsa_Double = some c_salsa_Double := by kernel_rfl

noncomputable def c_salsa_Bytes : AFn := AFn.mk 21 [.tmp 2, .tmp 3]
  (.seq (.region
      [⟨some 2, .mv (.k (.c (.snil))), none⟩,
        ⟨some 3, .mv (.k (.c (.int .i64 0))), none⟩])
  (.seq (.seq (.region
        [⟨some 7, .mv (.t 0), none⟩,
          ⟨some 8, .len false (.t 7), none⟩,
          ⟨some 9, .bin .neq (.t 8) (.k (.c (.int .i64 64))), none⟩])
    (.cond (.t 9)
      (.seq (.region
          [⟨some 2, .mv (.k (.c (.snil))), none⟩,
            ⟨some 3, .mv (.k (.c (.int .i64 9))), none⟩])
      (.ret))
      (.skip)))
  (.seq (.region
      [⟨some 11, .mv (.t 0), none⟩,
        ⟨some 12, .call F_words_Take32 [.t 11], none⟩,
        ⟨some 10, .mv (.t 12), none⟩,
        ⟨some 13, .extract (.t 10) 0, none⟩,
        ⟨some 14, .extract (.t 10) 1, none⟩,
        ⟨some 4, .mv (.t 13), none⟩,
        ⟨some 5, .mv (.t 14), none⟩])
  (.seq (.region
      [⟨some 15, .mv (.t 4), none⟩,
        ⟨some 16, .arrPtr 16 (.t 15), none⟩,
        ⟨some 17, .loadN 16 (.t 16), none⟩,
        ⟨some 18, .call F_salsa_Eight [.t 17], none⟩,
        ⟨some 6, .alloc (rep 16 (.int .u32 0)), none⟩,
        ⟨none, .store 16 (.t 6) (.t 18), none⟩])
  (.seq (.region
      [⟨some 19, .sliceArr 16 1 (.t 6) none none, none⟩,
        ⟨some 20, .call F_words_Little32 [.t 19], none⟩,
        ⟨some 2, .mv (.t 20), none⟩,
        ⟨some 3, .mv (.k (.c (.int .i64 0))), none⟩])
  (.ret))))))
theorem t_salsa_Bytes : A F_salsa_Bytes = some c_salsa_Bytes := by kernel_rfl

noncomputable def c_salsa_lines : AFn := AFn.mk 10 [.cellN 0 32]
  (.seq (.region
      [⟨some 0, .alloc (rep 32 (.int .i64 0)), none⟩])
  (.seq (.region
      [⟨some 1, .build (rep 4 (.int .i64 0)) [(0, 1, .k (.c (.int .i64 0))), (1, 1, .k (.c (.int .i64 4))), (2, 1, .k (.c (.int .i64 8))), (3, 1, .k (.c (.int .i64 12)))], none⟩,
        ⟨some 2, .build (rep 4 (.int .i64 0)) [(0, 1, .k (.c (.int .i64 5))), (1, 1, .k (.c (.int .i64 9))), (2, 1, .k (.c (.int .i64 13))), (3, 1, .k (.c (.int .i64 1)))], none⟩,
        ⟨some 3, .build (rep 4 (.int .i64 0)) [(0, 1, .k (.c (.int .i64 10))), (1, 1, .k (.c (.int .i64 14))), (2, 1, .k (.c (.int .i64 2))), (3, 1, .k (.c (.int .i64 6)))], none⟩,
        ⟨some 4, .build (rep 4 (.int .i64 0)) [(0, 1, .k (.c (.int .i64 15))), (1, 1, .k (.c (.int .i64 3))), (2, 1, .k (.c (.int .i64 7))), (3, 1, .k (.c (.int .i64 11)))], none⟩,
        ⟨some 5, .build (rep 4 (.int .i64 0)) [(0, 1, .k (.c (.int .i64 0))), (1, 1, .k (.c (.int .i64 1))), (2, 1, .k (.c (.int .i64 2))), (3, 1, .k (.c (.int .i64 3)))], none⟩,
        ⟨some 6, .build (rep 4 (.int .i64 0)) [(0, 1, .k (.c (.int .i64 5))), (1, 1, .k (.c (.int .i64 6))), (2, 1, .k (.c (.int .i64 7))), (3, 1, .k (.c (.int .i64 4)))], none⟩,
        ⟨some 7, .build (rep 4 (.int .i64 0)) [(0, 1, .k (.c (.int .i64 10))), (1, 1, .k (.c (.int .i64 11))), (2, 1, .k (.c (.int .i64 8))), (3, 1, .k (.c (.int .i64 9)))], none⟩,
        ⟨some 8, .build (rep 4 (.int .i64 0)) [(0, 1, .k (.c (.int .i64 15))), (1, 1, .k (.c (.int .i64 12))), (2, 1, .k (.c (.int .i64 13))), (3, 1, .k (.c (.int .i64 14)))], none⟩,
        ⟨some 9, .build (rep 32 (.int .i64 0)) [(0, 4, .t 1), (4, 4, .t 2), (8, 4, .t 3), (12, 4, .t 4), (16, 4, .t 5), (20, 4, .t 6), (24, 4, .t 7), (28, 4, .t 8)], none⟩,
        ⟨none, .store 32 (.t 0) (.t 9), none⟩])
  (.ret)))
theorem t_salsa_lines : A F_salsa_lines = some c_salsa_lines := by kernel_rfl
end PK
