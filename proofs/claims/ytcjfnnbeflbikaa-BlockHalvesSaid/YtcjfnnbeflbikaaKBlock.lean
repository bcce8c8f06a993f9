/- Package block as code of the abstract machine. -/
import Derived.Test.YtcjfnnbeflbikaaKF
namespace PK
open Go PAbs

noncomputable def c_block_Half : AFn := AFn.mk 26 [.tmp 4]
  (.seq (.region
      [⟨some 4, .mv (.k (.c (.int .u32 0))), none⟩])
  (.seq (.seq (.region
        [⟨some 5, .mv (.t 0), none⟩,
          ⟨some 6, .eq false .ptr (.t 5) (.k (.c (.pnil))), none⟩,
          ⟨some 7, .mv (.t 6), none⟩,
          ⟨some 8, .mv (.t 1), some (7, false)⟩,
          ⟨some 9, .bin .lss (.t 8) (.k (.c (.int .i64 0))), some (7, false)⟩,
          ⟨some 10, .pick (.t 7) (.k (.c (.bool true))) (.t 9), none⟩,
          ⟨some 11, .mv (.t 10), none⟩,
          ⟨some 12, .mv (.t 1), some (11, false)⟩,
          ⟨some 13, .bin .geq (.t 12) (.k (.c (.int .i64 256))), some (11, false)⟩,
          ⟨some 14, .pick (.t 11) (.k (.c (.bool true))) (.t 13), none⟩])
    (.cond (.t 14)
      (.seq (.region
          [⟨some 4, .mv (.k (.c (.int .u32 0))), none⟩])
      (.ret))
      (.skip)))
  (.seq (.region
      [⟨some 15, .mv (.t 0), none⟩,
        ⟨some 16, .mv (.t 1), none⟩,
        ⟨some 17, .bin .quo (.t 16) (.k (.c (.int .i64 2))), none⟩,
        ⟨some 18, .nilCheck (.t 15), none⟩,
        ⟨some 19, .idxArr 128 1 (.t 18) (.t 17), none⟩,
        ⟨some 20, .load1 (.t 19), none⟩,
        ⟨some 21, .mv (.t 1), none⟩,
        ⟨some 22, .bin .rem (.t 21) (.k (.c (.int .i64 2))), none⟩,
        ⟨some 23, .bin .mul (.k (.c (.int .i64 32))) (.t 22), none⟩,
        ⟨some 24, .bin .shr (.t 20) (.t 23), none⟩,
        ⟨some 25, .convInt .u32 (.t 24), none⟩,
        ⟨some 4, .mv (.t 25), none⟩])
  (.ret))))
theorem t_block_Half : A F_block_Half = some c_block_Half := by kernel_rfl

noncomputable def c_block_SetHalf : AFn := AFn.mk 40 [.tmp 6]
  (.seq (.region
      [⟨some 6, .mv (.k (.c (.bool false))), none⟩])
  (.seq (.seq (.region
        [⟨some 8, .mv (.t 0), none⟩,
          ⟨some 9, .eq false .ptr (.t 8) (.k (.c (.pnil))), none⟩,
          ⟨some 10, .mv (.t 9), none⟩,
          ⟨some 11, .mv (.t 1), some (10, false)⟩,
          ⟨some 12, .bin .lss (.t 11) (.k (.c (.int .i64 0))), some (10, false)⟩,
          ⟨some 13, .pick (.t 10) (.k (.c (.bool true))) (.t 12), none⟩,
          ⟨some 14, .mv (.t 13), none⟩,
          ⟨some 15, .mv (.t 1), some (14, false)⟩,
          ⟨some 16, .bin .geq (.t 15) (.k (.c (.int .i64 256))), some (14, false)⟩,
          ⟨some 17, .pick (.t 14) (.k (.c (.bool true))) (.t 16), none⟩])
    (.cond (.t 17)
      (.seq (.region
          [⟨some 6, .mv (.k (.c (.bool false))), none⟩])
      (.ret))
      (.skip)))
  (.seq (.region
      [⟨some 18, .mv (.t 1), none⟩,
        ⟨some 19, .bin .rem (.t 18) (.k (.c (.int .i64 2))), none⟩,
        ⟨some 20, .bin .mul (.k (.c (.int .i64 32))) (.t 19), none⟩,
        ⟨some 7, .mv (.t 20), none⟩])
  (.seq (.draw
      [⟨some 21, .mv (.t 0), none⟩,
        ⟨some 22, .mv (.t 1), none⟩,
        ⟨some 23, .bin .quo (.t 22) (.k (.c (.int .i64 2))), none⟩,
        ⟨some 24, .mv (.t 0), none⟩,
        ⟨some 25, .mv (.t 1), none⟩,
        ⟨some 26, .bin .quo (.t 25) (.k (.c (.int .i64 2))), none⟩,
        ⟨some 27, .nilCheck (.t 24), none⟩,
        ⟨some 28, .idxArr 128 1 (.t 27) (.t 26), none⟩,
        ⟨some 29, .load1 (.t 28), none⟩,
        ⟨some 30, .mv (.t 7), none⟩,
        ⟨some 31, .bin .shl (.k (.c (.int .u64 4294967295))) (.t 30), none⟩,
        ⟨some 32, .bin .andNot (.t 29) (.t 31), none⟩,
        ⟨some 33, .mv (.t 2), none⟩,
        ⟨some 34, .convInt .u64 (.t 33), none⟩,
        ⟨some 35, .mv (.t 7), none⟩,
        ⟨some 36, .bin .shl (.t 34) (.t 35), none⟩,
        ⟨some 37, .bin .or (.t 32) (.t 36), none⟩,
        ⟨some 38, .nilCheck (.t 21), none⟩]
      [⟨some 39, .idxArr 128 1 (.t 38) (.t 23), none⟩,
        ⟨none, .store 1 (.t 39) (.t 37), none⟩])
  (.seq (.region
      [⟨some 6, .mv (.k (.c (.bool true))), none⟩])
  (.ret))))))
theorem t_block_SetHalf : A F_block_SetHalf = some c_block_SetHalf := by kernel_rfl

noncomputable def c_block_Xor : AFn := AFn.mk 28 [.cellN 2 128]
  (.seq (.region
      [⟨some 2, .alloc (rep 128 (.int .u64 0)), none⟩])
  (.seq (.region
      [⟨some 3, .alloc (rep 128 (.int .u64 0)), none⟩])
  (.seq (.seq (.region
        [⟨some 8, .mv (.t 0), none⟩,
          ⟨some 9, .len false (.t 8), none⟩,
          ⟨some 10, .mv (.k (.c (.int .i64 0))), none⟩])
    (.block 0
      (.loop
        (.seq (.region
            [⟨some 11, .bin .lss (.t 10) (.t 9), none⟩])
        (.seq (.cond (.t 11)
            (.skip)
            (.exit 0))
        (.seq (.block 1
            (.seq (.region
                [⟨some 12, .idxSlc 128 (.t 8) (.t 10), none⟩,
                  ⟨some 13, .loadN 128 (.t 12), none⟩,
                  ⟨some 5, .alloc (rep 128 (.int .u64 0)), none⟩,
                  ⟨none, .store 128 (.t 5) (.t 13), none⟩])
            (.seq (.region
                [⟨some 14, .loadN 128 (.t 5), none⟩,
                  ⟨some 15, .mv (.k (.c (.int .i64 0))), none⟩])
            (.block 2
              (.loop
                (.seq (.region
                    [⟨some 16, .bin .lss (.t 15) (.k (.c (.int .i64 128))), none⟩])
                (.seq (.cond (.t 16)
                    (.skip)
                    (.exit 2))
                (.seq (.block 3
                    (.seq (.region
                        [⟨some 17, .mv (.t 15), none⟩,
                          ⟨some 18, .elem1 128 (.t 14) (.t 15), none⟩,
                          ⟨some 6, .mv (.t 17), none⟩,
                          ⟨some 7, .mv (.t 18), none⟩])
                    (.region
                      [⟨some 19, .mv (.t 6), none⟩,
                        ⟨some 20, .idxArr 128 1 (.t 3) (.t 19), none⟩,
                        ⟨some 21, .load1 (.t 20), none⟩,
                        ⟨some 22, .mv (.t 7), none⟩,
                        ⟨some 23, .bin .xor (.t 21) (.t 22), none⟩,
                        ⟨some 24, .idxArr 128 1 (.t 3) (.t 19), none⟩,
                        ⟨none, .store 1 (.t 24) (.t 23), none⟩])))
                (.region
                  [⟨some 25, .bin .add (.t 15) (.k (.c (.int .i64 1))), none⟩,
                    ⟨some 15, .mv (.t 25), none⟩])))))))))
        (.region
          [⟨some 26, .bin .add (.t 10) (.k (.c (.int .i64 1))), none⟩,
            ⟨some 10, .mv (.t 26), none⟩])))))))
  (.seq (.region
      [⟨some 27, .loadN 128 (.t 3), none⟩,
        ⟨none, .store 128 (.t 2) (.t 27), none⟩])
  (.ret)))))
theorem t_block_Xor : A F_block_Xor = some c_block_Xor := by kernel_rfl

noncomputable def c_block_Clean : AFn := AFn.mk 11 [.tmp 2]
  (.seq (.region
      [⟨some 2, .mv (.k (.c (.bool false))), none⟩])
  (.seq (.region
      [⟨some 3, .mv (.t 0), none⟩,
        ⟨some 4, .call F_block_Xor [.t 3], none⟩,
        ⟨some 5, .build (rep 128 (.int .u64 0)) [], none⟩,
        ⟨some 6, .eq false (.agg (rep 128 (.int .u64))) (.t 4) (.t 5), none⟩,
        ⟨some 7, .mv (.t 6), none⟩,
        ⟨some 8, .mv (.t 0), some (7, true)⟩,
        ⟨some 9, .call F_block_only [.t 8], some (7, true)⟩,
        ⟨some 10, .pick (.t 7) (.t 9) (.k (.c (.bool false))), none⟩,
        ⟨some 2, .mv (.t 10), none⟩])
  (.ret)))
theorem t_block_Clean : A F_block_Clean = some c_block_Clean := by kernel_rfl

noncomputable def c_block_Bytes : AFn := AFn.mk 6 [.tmp 2]
  (.seq (.region
      [⟨some 1, .box (.t 0), none⟩,
        ⟨some 2, .mv (.k (.c (.str []))), none⟩])
  (.seq (.region
      [⟨some 3, .sliceArr 128 1 (.t 1) none none, none⟩,
        ⟨some 4, .call F_words_Little64 [.t 3], none⟩,
        ⟨some 5, .bytesStr (.t 4), none⟩,
        ⟨some 2, .mv (.t 5), none⟩])
  (.ret)))
theorem t_block_Bytes : A F_block_Bytes = some c_block_Bytes := by kernel_rfl

noncomputable def c_block_From : AFn := AFn.mk 19 [.cellN 2 128, .tmp 3]
  (.seq (.region
      [⟨some 2, .alloc (rep 128 (.int .u64 0)), none⟩,
        ⟨some 3, .mv (.k (.c (.int .i64 0))), none⟩])
  (.seq (.seq (.region
        [⟨some 6, .mv (.t 0), none⟩,
          ⟨some 7, .len true (.t 6), none⟩,
          ⟨some 8, .bin .neq (.t 7) (.k (.c (.int .i64 1024))), none⟩])
    (.cond (.t 8)
      (.seq (.region
          [⟨some 9, .build (rep 128 (.int .u64 0)) [], none⟩,
            ⟨none, .store 128 (.t 2) (.t 9), none⟩,
            ⟨some 3, .mv (.k (.c (.int .i64 9))), none⟩])
      (.ret))
      (.skip)))
  (.seq (.region
      [⟨some 11, .mv (.t 0), none⟩,
        ⟨some 12, .strBytes (.t 11), none⟩,
        ⟨some 13, .call F_words_Take64 [.t 12], none⟩,
        ⟨some 10, .mv (.t 13), none⟩,
        ⟨some 14, .extract (.t 10) 0, none⟩,
        ⟨some 15, .extract (.t 10) 1, none⟩,
        ⟨some 4, .mv (.t 14), none⟩,
        ⟨some 5, .mv (.t 15), none⟩])
  (.seq (.region
      [⟨some 16, .mv (.t 4), none⟩,
        ⟨some 17, .arrPtr 128 (.t 16), none⟩,
        ⟨some 18, .loadN 128 (.t 17), none⟩,
        ⟨none, .store 128 (.t 2) (.t 18), none⟩,
        ⟨some 3, .mv (.k (.c (.int .i64 0))), none⟩])
  (.ret)))))
theorem t_block_From : A F_block_From = some c_block_From := by kernel_rfl

noncomputable def c_block_Of : AFn := AFn.mk 13 [.cellN 2 128, .tmp 3]
  (.seq (.region
      [⟨some 2, .alloc (rep 128 (.int .u64 0)), none⟩,
        ⟨some 3, .mv (.k (.c (.int .i64 0))), none⟩])
  (.seq (.region
      [⟨some 4, .alloc (rep 128 (.int .u64 0)), none⟩])
  (.seq (.seq (.region
        [⟨some 5, .mv (.t 0), none⟩,
          ⟨some 6, .len false (.t 5), none⟩,
          ⟨some 7, .bin .gtr (.t 6) (.k (.c (.int .i64 128))), none⟩])
    (.cond (.t 7)
      (.seq (.region
          [⟨some 8, .loadN 128 (.t 4), none⟩,
            ⟨none, .store 128 (.t 2) (.t 8), none⟩,
            ⟨some 3, .mv (.k (.c (.int .i64 14))), none⟩])
      (.ret))
      (.skip)))
  (.seq (.region
      [⟨some 9, .sliceArr 128 1 (.t 4) none none, none⟩,
        ⟨some 10, .mv (.t 0), none⟩,
        ⟨some 11, .copy 1 (.t 9) (.t 10), none⟩])
  (.seq (.region
      [⟨some 12, .loadN 128 (.t 4), none⟩,
        ⟨none, .store 128 (.t 2) (.t 12), none⟩,
        ⟨some 3, .mv (.k (.c (.int .i64 0))), none⟩])
  (.ret))))))
theorem t_block_Of : A F_block_Of = some c_block_Of := by kernel_rfl

noncomputable def c_block_only : AFn := AFn.mk 15 [.tmp 2]
  (.seq (.region
      [⟨some 2, .mv (.k (.c (.bool false))), none⟩])
  (.seq (.seq (.region
        [⟨some 5, .mv (.t 0), none⟩,
          ⟨some 6, .len false (.t 5), none⟩,
          ⟨some 7, .mv (.k (.c (.int .i64 0))), none⟩])
    (.block 0
      (.loop
        (.seq (.region
            [⟨some 8, .bin .lss (.t 7) (.t 6), none⟩])
        (.seq (.cond (.t 8)
            (.skip)
            (.exit 0))
        (.seq (.block 1
            (.seq (.region
                [⟨some 9, .idxSlc 128 (.t 5) (.t 7), none⟩,
                  ⟨some 10, .loadN 128 (.t 9), none⟩,
                  ⟨some 4, .alloc (rep 128 (.int .u64 0)), none⟩,
                  ⟨none, .store 128 (.t 4) (.t 10), none⟩])
            (.seq (.region
                [⟨some 11, .loadN 128 (.t 4), none⟩,
                  ⟨some 12, .build (rep 128 (.int .u64 0)) [], none⟩,
                  ⟨some 13, .eq true (.agg (rep 128 (.int .u64))) (.t 11) (.t 12), none⟩])
            (.cond (.t 13)
              (.seq (.region
                  [⟨some 2, .mv (.k (.c (.bool false))), none⟩])
              (.ret))
              (.skip)))))
        (.region
          [⟨some 14, .bin .add (.t 7) (.k (.c (.int .i64 1))), none⟩,
            ⟨some 7, .mv (.t 14), none⟩])))))))
  (.seq (.region
      [⟨some 2, .mv (.k (.c (.bool true))), none⟩])
  (.ret))))
theorem t_block_only : A F_block_only = some c_block_only := by kernel_rfl
end PK
