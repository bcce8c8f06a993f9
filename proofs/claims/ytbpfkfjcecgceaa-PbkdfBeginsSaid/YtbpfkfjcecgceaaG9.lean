/- Texts of this claim, put together: KSha KPestleref05 L05a L05b L05c KFeed L04a L04b L05d. -/
import Derived.Test.YtbpfkfjcecgceaaG8
/- Package sha as code of the abstract machine. -/
namespace PK
open Go PAbs

noncomputable def c_sha_Compress : AFn := AFn.mk 132 [.cellN 4 8, .tmp 5]
  (.seq (.region
      [⟨some 2, .box (.t 0), none⟩,
        ⟨some 4, .alloc (rep 8 (.int .u32 0)), none⟩,
        ⟨some 5, .mv (.k (.c (.int .i64 0))), none⟩])
  (.seq (.seq (.region
        [⟨some 23, .mv (.t 1), none⟩,
          ⟨some 24, .len false (.t 23), none⟩,
          ⟨some 25, .bin .neq (.t 24) (.k (.c (.int .i64 64))), none⟩])
    (.cond (.t 25)
      (.seq (.region
          [⟨some 26, .build (rep 8 (.int .u32 0)) [], none⟩,
            ⟨none, .store 8 (.t 4) (.t 26), none⟩,
            ⟨some 5, .mv (.k (.c (.int .i64 9))), none⟩])
      (.ret))
      (.skip)))
  (.seq (.region
      [⟨some 27, .mv (.t 1), none⟩,
        ⟨some 28, .call F_sha_spread [.t 27], none⟩,
        ⟨some 29, .call F_sha_constants [], none⟩,
        ⟨some 6, .alloc (rep 64 (.int .u32 0)), none⟩,
        ⟨some 7, .alloc (rep 64 (.int .u32 0)), none⟩,
        ⟨none, .store 64 (.t 6) (.t 28), none⟩,
        ⟨none, .store 64 (.t 7) (.t 29), none⟩])
  (.seq (.draw
      [⟨some 30, .idxArr 8 1 (.t 2) (.k (.c (.int .i64 0))), none⟩,
        ⟨some 31, .load1 (.t 30), none⟩,
        ⟨some 32, .idxArr 8 1 (.t 2) (.k (.c (.int .i64 1))), none⟩,
        ⟨some 33, .load1 (.t 32), none⟩,
        ⟨some 34, .idxArr 8 1 (.t 2) (.k (.c (.int .i64 2))), none⟩,
        ⟨some 35, .load1 (.t 34), none⟩,
        ⟨some 36, .idxArr 8 1 (.t 2) (.k (.c (.int .i64 3))), none⟩,
        ⟨some 37, .load1 (.t 36), none⟩,
        ⟨some 38, .idxArr 8 1 (.t 2) (.k (.c (.int .i64 4))), none⟩,
        ⟨some 39, .load1 (.t 38), none⟩,
        ⟨some 40, .idxArr 8 1 (.t 2) (.k (.c (.int .i64 5))), none⟩,
        ⟨some 41, .load1 (.t 40), none⟩,
        ⟨some 42, .idxArr 8 1 (.t 2) (.k (.c (.int .i64 6))), none⟩,
        ⟨some 43, .load1 (.t 42), none⟩,
        ⟨some 44, .idxArr 8 1 (.t 2) (.k (.c (.int .i64 7))), none⟩,
        ⟨some 45, .load1 (.t 44), none⟩,
        ⟨some 8, .mv (.t 31), none⟩,
        ⟨some 9, .mv (.t 33), none⟩,
        ⟨some 10, .mv (.t 35), none⟩,
        ⟨some 11, .mv (.t 37), none⟩,
        ⟨some 12, .mv (.t 39), none⟩,
        ⟨some 13, .mv (.t 41), none⟩,
        ⟨some 14, .mv (.t 43), none⟩]
      [⟨some 15, .mv (.t 45), none⟩])
  (.seq (.seq (.region
        [⟨some 46, .mv (.k (.c (.int .i64 0))), none⟩])
    (.block 0
      (.loop
        (.seq (.region
            [⟨some 47, .bin .lss (.t 46) (.k (.c (.int .i64 64))), none⟩])
        (.seq (.cond (.t 47)
            (.skip)
            (.exit 0))
        (.seq (.block 1
            (.seq (.region
                [⟨some 48, .mv (.t 46), none⟩,
                  ⟨some 16, .mv (.t 48), none⟩])
            (.seq (.region
                [⟨some 49, .mv (.t 12), none⟩,
                  ⟨some 50, .call F_words_Right32 [.t 49, .k (.c (.int .i64 6))], none⟩,
                  ⟨some 51, .mv (.t 12), none⟩,
                  ⟨some 52, .call F_words_Right32 [.t 51, .k (.c (.int .i64 11))], none⟩,
                  ⟨some 53, .bin .xor (.t 50) (.t 52), none⟩,
                  ⟨some 54, .mv (.t 12), none⟩,
                  ⟨some 55, .call F_words_Right32 [.t 54, .k (.c (.int .i64 25))], none⟩,
                  ⟨some 56, .bin .xor (.t 53) (.t 55), none⟩,
                  ⟨some 17, .mv (.t 56), none⟩])
            (.seq (.draw
                [⟨some 57, .mv (.t 15), none⟩,
                  ⟨some 58, .mv (.t 17), none⟩,
                  ⟨some 59, .bin .add (.t 57) (.t 58), none⟩,
                  ⟨some 60, .mv (.t 12), none⟩,
                  ⟨some 61, .mv (.t 13), none⟩,
                  ⟨some 62, .bin .and (.t 60) (.t 61), none⟩,
                  ⟨some 63, .mv (.t 12), none⟩,
                  ⟨some 64, .un .xor (.t 63), none⟩,
                  ⟨some 65, .mv (.t 14), none⟩,
                  ⟨some 66, .bin .and (.t 64) (.t 65), none⟩,
                  ⟨some 67, .bin .xor (.t 62) (.t 66), none⟩,
                  ⟨some 68, .bin .add (.t 59) (.t 67), none⟩,
                  ⟨some 69, .mv (.t 16), none⟩,
                  ⟨some 70, .idxArr 64 1 (.t 7) (.t 69), none⟩,
                  ⟨some 71, .load1 (.t 70), none⟩,
                  ⟨some 72, .bin .add (.t 68) (.t 71), none⟩,
                  ⟨some 73, .mv (.t 16), none⟩,
                  ⟨some 74, .idxArr 64 1 (.t 6) (.t 73), none⟩,
                  ⟨some 75, .load1 (.t 74), none⟩]
                [⟨some 76, .bin .add (.t 72) (.t 75), none⟩,
                  ⟨some 18, .mv (.t 76), none⟩])
            (.seq (.region
                [⟨some 77, .mv (.t 8), none⟩,
                  ⟨some 78, .call F_words_Right32 [.t 77, .k (.c (.int .i64 2))], none⟩,
                  ⟨some 79, .mv (.t 8), none⟩,
                  ⟨some 80, .call F_words_Right32 [.t 79, .k (.c (.int .i64 13))], none⟩,
                  ⟨some 81, .bin .xor (.t 78) (.t 80), none⟩,
                  ⟨some 82, .mv (.t 8), none⟩,
                  ⟨some 83, .call F_words_Right32 [.t 82, .k (.c (.int .i64 22))], none⟩,
                  ⟨some 84, .bin .xor (.t 81) (.t 83), none⟩,
                  ⟨some 19, .mv (.t 84), none⟩])
            (.seq (.region
                [⟨some 85, .mv (.t 19), none⟩,
                  ⟨some 86, .mv (.t 8), none⟩,
                  ⟨some 87, .mv (.t 9), none⟩,
                  ⟨some 88, .bin .and (.t 86) (.t 87), none⟩,
                  ⟨some 89, .mv (.t 8), none⟩,
                  ⟨some 90, .mv (.t 10), none⟩,
                  ⟨some 91, .bin .and (.t 89) (.t 90), none⟩,
                  ⟨some 92, .bin .xor (.t 88) (.t 91), none⟩,
                  ⟨some 93, .mv (.t 9), none⟩,
                  ⟨some 94, .mv (.t 10), none⟩,
                  ⟨some 95, .bin .and (.t 93) (.t 94), none⟩,
                  ⟨some 96, .bin .xor (.t 92) (.t 95), none⟩,
                  ⟨some 97, .bin .add (.t 85) (.t 96), none⟩,
                  ⟨some 20, .mv (.t 97), none⟩])
            (.region
              [⟨some 98, .mv (.t 14), none⟩,
                ⟨some 99, .mv (.t 13), none⟩,
                ⟨some 100, .mv (.t 12), none⟩,
                ⟨some 101, .mv (.t 11), none⟩,
                ⟨some 102, .mv (.t 18), none⟩,
                ⟨some 103, .bin .add (.t 101) (.t 102), none⟩,
                ⟨some 104, .mv (.t 10), none⟩,
                ⟨some 105, .mv (.t 9), none⟩,
                ⟨some 106, .mv (.t 8), none⟩,
                ⟨some 107, .mv (.t 18), none⟩,
                ⟨some 108, .mv (.t 20), none⟩,
                ⟨some 109, .bin .add (.t 107) (.t 108), none⟩,
                ⟨some 15, .mv (.t 98), none⟩,
                ⟨some 14, .mv (.t 99), none⟩,
                ⟨some 13, .mv (.t 100), none⟩,
                ⟨some 12, .mv (.t 103), none⟩,
                ⟨some 11, .mv (.t 104), none⟩,
                ⟨some 10, .mv (.t 105), none⟩,
                ⟨some 9, .mv (.t 106), none⟩,
                ⟨some 8, .mv (.t 109), none⟩])))))))
        (.region
          [⟨some 110, .bin .add (.t 46) (.k (.c (.int .i64 1))), none⟩,
            ⟨some 46, .mv (.t 110), none⟩])))))))
  (.seq (.seq (.region
        [⟨some 111, .mv (.t 8), none⟩,
          ⟨some 112, .mv (.t 9), none⟩,
          ⟨some 113, .mv (.t 10), none⟩,
          ⟨some 114, .mv (.t 11), none⟩,
          ⟨some 115, .mv (.t 12), none⟩,
          ⟨some 116, .mv (.t 13), none⟩,
          ⟨some 117, .mv (.t 14), none⟩,
          ⟨some 118, .mv (.t 15), none⟩,
          ⟨some 119, .build (rep 8 (.int .u32 0)) [(0, 1, .t 111), (1, 1, .t 112), (2, 1, .t 113), (3, 1, .t 114), (4, 1, .t 115), (5, 1, .t 116), (6, 1, .t 117), (7, 1, .t 118)], none⟩,
          ⟨some 120, .mv (.k (.c (.int .i64 0))), none⟩])
    (.block 2
      (.loop
        (.seq (.region
            [⟨some 121, .bin .lss (.t 120) (.k (.c (.int .i64 8))), none⟩])
        (.seq (.cond (.t 121)
            (.skip)
            (.exit 2))
        (.seq (.block 3
            (.seq (.region
                [⟨some 122, .mv (.t 120), none⟩,
                  ⟨some 123, .elem1 8 (.t 119) (.t 120), none⟩,
                  ⟨some 21, .mv (.t 122), none⟩,
                  ⟨some 22, .mv (.t 123), none⟩])
            (.region
              [⟨some 124, .mv (.t 21), none⟩,
                ⟨some 125, .idxArr 8 1 (.t 2) (.t 124), none⟩,
                ⟨some 126, .load1 (.t 125), none⟩,
                ⟨some 127, .mv (.t 22), none⟩,
                ⟨some 128, .bin .add (.t 126) (.t 127), none⟩,
                ⟨some 129, .idxArr 8 1 (.t 2) (.t 124), none⟩,
                ⟨none, .store 1 (.t 129) (.t 128), none⟩])))
        (.region
          [⟨some 130, .bin .add (.t 120) (.k (.c (.int .i64 1))), none⟩,
            ⟨some 120, .mv (.t 130), none⟩])))))))
  (.seq (.region
      [⟨some 131, .loadN 8 (.t 2), none⟩,
        ⟨none, .store 8 (.t 4) (.t 131), none⟩,
        ⟨some 5, .mv (.k (.c (.int .i64 0))), none⟩])
  (.ret))))))))
theorem t_sha_Compress : A F_sha_Compress = some c_sha_Compress := by kernel_rfl

noncomputable def c_sha_Initial : AFn := AFn.mk 2 [.cellN 0 8]
  (.seq (.region
      [⟨some 0, .alloc (rep 8 (.int .u32 0)), none⟩])
  (.seq (.region
      [⟨some 1, .build (rep 8 (.int .u32 0)) [(0, 1, .k (.c (.int .u32 1779033703))), (1, 1, .k (.c (.int .u32 3144134277))), (2, 1, .k (.c (.int .u32 1013904242))), (3, 1, .k (.c (.int .u32 2773480762))), (4, 1, .k (.c (.int .u32 1359893119))), (5, 1, .k (.c (.int .u32 2600822924))), (6, 1, .k (.c (.int .u32 528734635))), (7, 1, .k (.c (.int .u32 1541459225)))], none⟩,
        ⟨none, .store 8 (.t 0) (.t 1), none⟩])
  (.ret)))
theorem t_sha_Initial : A F_sha_Initial = some c_sha_Initial := by kernel_rfl

noncomputable def c_sha_Of : AFn := AFn.mk 7 [.tmp 2]
  (.seq (.region
      [⟨some 2, .mv (.k (.c (.str []))), none⟩])
  (.seq (.region
      [⟨some 3, .call F_sha_New [], none⟩,
        ⟨some 4, .mv (.t 0), none⟩,
        ⟨some 5, .call F_sha_Hash_Add [.t 3, .t 4], none⟩,
        ⟨some 6, .call F_sha_Hash_Sum [.t 5], none⟩,
        ⟨some 2, .mv (.t 6), none⟩])
  (.ret)))
theorem t_sha_Of : A F_sha_Of = some c_sha_Of := by kernel_rfl

noncomputable def c_sha_Pad : AFn := AFn.mk 27 [.tmp 2]
  (.seq (.region
      [⟨some 2, .mv (.k (.c (.str []))), none⟩])
  (.seq (.seq (.region
        [⟨some 6, .mv (.t 0), none⟩,
          ⟨some 7, .bin .lss (.t 6) (.k (.c (.int .i64 0))), none⟩])
    (.cond (.t 7)
      (.seq (.region
          [⟨some 2, .mv (.k (.c (.str []))), none⟩])
      (.ret))
      (.skip)))
  (.seq (.region
      [⟨some 8, .mv (.t 0), none⟩,
        ⟨some 9, .bin .rem (.t 8) (.k (.c (.int .i64 64))), none⟩,
        ⟨some 10, .bin .sub (.k (.c (.int .i64 119))) (.t 9), none⟩,
        ⟨some 11, .bin .rem (.t 10) (.k (.c (.int .i64 64))), none⟩,
        ⟨some 12, .bin .add (.t 11) (.k (.c (.int .i64 1))), none⟩,
        ⟨some 3, .mv (.t 12), none⟩])
  (.seq (.region
      [⟨some 13, .mv (.t 3), none⟩,
        ⟨some 14, .makeSlice ([.int .u8 0]) 1 (.t 13) (.t 13), none⟩,
        ⟨some 4, .mv (.t 14), none⟩])
  (.seq (.region
      [⟨some 15, .mv (.t 4), none⟩,
        ⟨some 16, .idxSlc 1 (.t 15) (.k (.c (.int .i64 0))), none⟩,
        ⟨none, .store 1 (.t 16) (.k (.c (.int .u8 128))), none⟩])
  (.seq (.region
      [⟨some 17, .mv (.t 0), none⟩,
        ⟨some 18, .convInt .u64 (.t 17), none⟩,
        ⟨some 19, .bin .mul (.t 18) (.k (.c (.int .u64 8))), none⟩,
        ⟨some 5, .mv (.t 19), none⟩])
  (.seq (.region
      [⟨some 20, .mv (.t 4), none⟩,
        ⟨some 21, .mv (.t 5), none⟩,
        ⟨some 22, .buildSlice ([.int .u64 0]) 1 1 [(0, 1, .t 21)], none⟩,
        ⟨some 23, .call F_words_Big64 [.t 22], none⟩,
        ⟨some 24, .append ([.int .u8 0]) 1 (.t 20) (.t 23), none⟩,
        ⟨some 4, .mv (.t 24), none⟩])
  (.seq (.region
      [⟨some 25, .mv (.t 4), none⟩,
        ⟨some 26, .bytesStr (.t 25), none⟩,
        ⟨some 2, .mv (.t 26), none⟩])
  (.ret)))))))))
theorem t_sha_Pad : A F_sha_Pad = some c_sha_Pad := by kernel_rfl

noncomputable def c_sha_Hash_Sum : AFn := AFn.mk 23 [.tmp 2]
  (.seq (.region
      [⟨some 2, .mv (.k (.c (.str []))), none⟩])
  (.seq (.seq (.region
        [⟨some 4, .mv (.t 0), none⟩,
          ⟨some 5, .eq false .ptr (.t 4) (.k (.c (.pnil))), none⟩])
    (.cond (.t 5)
      (.seq (.region
          [⟨some 2, .mv (.k (.c (.str []))), none⟩])
      (.ret))
      (.skip)))
  (.seq (.region
      [⟨some 6, .mv (.t 0), none⟩,
        ⟨some 7, .call F_sha_Hash_Clone [.t 6], none⟩,
        ⟨some 3, .mv (.t 7), none⟩])
  (.seq (.region
      [⟨some 8, .mv (.t 3), none⟩,
        ⟨some 9, .mv (.t 0), none⟩,
        ⟨some 10, .nilCheck (.t 9), none⟩,
        ⟨some 11, .fieldAddr 0 (.t 10), none⟩,
        ⟨some 12, .load1 (.t 11), none⟩,
        ⟨some 13, .call F_feed_Feed_Total [.t 12], none⟩,
        ⟨some 14, .call F_sha_Pad [.t 13], none⟩,
        ⟨some 15, .buildSlice ([.str []]) 1 1 [(0, 1, .t 14)], none⟩,
        ⟨some 16, .call F_sha_Hash_Add [.t 8, .t 15], none⟩])
  (.seq (.region
      [⟨some 17, .mv (.t 3), none⟩,
        ⟨some 18, .nilCheck (.t 17), none⟩,
        ⟨some 19, .fieldAddr 1 (.t 18), none⟩,
        ⟨some 20, .sliceArr 8 1 (.t 19) none none, none⟩,
        ⟨some 21, .call F_words_Big32 [.t 20], none⟩,
        ⟨some 22, .bytesStr (.t 21), none⟩,
        ⟨some 2, .mv (.t 22), none⟩])
  (.ret))))))
theorem t_sha_Hash_Sum : A F_sha_Hash_Sum = some c_sha_Hash_Sum := by kernel_rfl

noncomputable def c_sha_Hash_Add : AFn := AFn.mk 34 [.tmp 4]
  (.seq (.region
      [⟨some 4, .mv (.k (.c (.pnil))), none⟩])
  (.seq (.seq (.region
        [⟨some 7, .mv (.t 0), none⟩,
          ⟨some 8, .eq false .ptr (.t 7) (.k (.c (.pnil))), none⟩])
    (.cond (.t 8)
      (.seq (.region
          [⟨some 4, .mv (.k (.c (.pnil))), none⟩])
      (.ret))
      (.skip)))
  (.seq (.seq (.region
        [⟨some 9, .mv (.t 0), none⟩,
          ⟨some 10, .nilCheck (.t 9), none⟩,
          ⟨some 11, .fieldAddr 0 (.t 10), none⟩,
          ⟨some 12, .load1 (.t 11), none⟩,
          ⟨some 13, .mv (.t 1), none⟩,
          ⟨some 14, .call F_feed_Feed_Put [.t 12, .t 13], none⟩,
          ⟨some 15, .len false (.t 14), none⟩,
          ⟨some 16, .mv (.k (.c (.int .i64 0))), none⟩])
    (.block 0
      (.loop
        (.seq (.region
            [⟨some 17, .bin .lss (.t 16) (.t 15), none⟩])
        (.seq (.cond (.t 17)
            (.skip)
            (.exit 0))
        (.seq (.block 1
            (.seq (.region
                [⟨some 18, .idxSlc 1 (.t 14) (.t 16), none⟩,
                  ⟨some 19, .load1 (.t 18), none⟩,
                  ⟨some 6, .mv (.t 19), none⟩])
            (.region
              [⟨some 21, .mv (.t 0), none⟩,
                ⟨some 22, .mv (.t 0), none⟩,
                ⟨some 23, .nilCheck (.t 22), none⟩,
                ⟨some 24, .fieldAddr 1 (.t 23), none⟩,
                ⟨some 25, .loadN 8 (.t 24), none⟩,
                ⟨some 26, .mv (.t 6), none⟩,
                ⟨some 27, .call F_sha_Compress [.t 25, .t 26], none⟩,
                ⟨some 20, .mv (.t 27), none⟩,
                ⟨some 28, .extract (.t 20) 0, none⟩,
                ⟨some 29, .extract (.t 20) 1, none⟩,
                ⟨some 30, .nilCheck (.t 21), none⟩,
                ⟨some 31, .fieldAddr 1 (.t 30), none⟩,
                ⟨none, .store 8 (.t 31) (.t 28), none⟩])))
        (.region
          [⟨some 32, .bin .add (.t 16) (.k (.c (.int .i64 1))), none⟩,
            ⟨some 16, .mv (.t 32), none⟩])))))))
  (.seq (.region
      [⟨some 33, .mv (.t 0), none⟩,
        ⟨some 4, .mv (.t 33), none⟩])
  (.ret)))))
theorem t_sha_Hash_Add : A F_sha_Hash_Add = some c_sha_Hash_Add := by kernel_rfl

noncomputable def c_sha_Hash_Clone : AFn := AFn.mk 16 [.tmp 2]
  (.seq (.region
      [⟨some 2, .mv (.k (.c (.pnil))), none⟩])
  (.seq (.seq (.region
        [⟨some 3, .mv (.t 0), none⟩,
          ⟨some 4, .eq false .ptr (.t 3) (.k (.c (.pnil))), none⟩])
    (.cond (.t 4)
      (.seq (.region
          [⟨some 2, .mv (.k (.c (.pnil))), none⟩])
      (.ret))
      (.skip)))
  (.seq (.draw
      [⟨some 5, .mv (.t 0), none⟩,
        ⟨some 6, .nilCheck (.t 5), none⟩,
        ⟨some 7, .fieldAddr 0 (.t 6), none⟩,
        ⟨some 8, .load1 (.t 7), none⟩,
        ⟨some 9, .call F_feed_Feed_Copy [.t 8], none⟩,
        ⟨some 10, .mv (.t 0), none⟩,
        ⟨some 11, .nilCheck (.t 10), none⟩,
        ⟨some 12, .fieldAddr 1 (.t 11), none⟩,
        ⟨some 13, .loadN 8 (.t 12), none⟩]
      [⟨some 14, .build ([.pnil, .int .u32 0, .int .u32 0, .int .u32 0, .int .u32 0, .int .u32 0, .int .u32 0, .int .u32 0, .int .u32 0]) [(0, 1, .t 9), (1, 8, .t 13)], none⟩,
        ⟨some 15, .box (.t 14), none⟩,
        ⟨some 2, .mv (.t 15), none⟩])
  (.ret))))
theorem t_sha_Hash_Clone : A F_sha_Hash_Clone = some c_sha_Hash_Clone := by kernel_rfl

noncomputable def c_sha_New : AFn := AFn.mk 11 [.tmp 0]
  (.seq (.region
      [⟨some 0, .mv (.k (.c (.pnil))), none⟩])
  (.seq (.region
      [⟨some 4, .call F_feed_New [.k (.c (.int .i64 64)), .k (.c (.bool false))], none⟩,
        ⟨some 3, .mv (.t 4), none⟩,
        ⟨some 5, .extract (.t 3) 0, none⟩,
        ⟨some 6, .extract (.t 3) 1, none⟩,
        ⟨some 1, .mv (.t 5), none⟩,
        ⟨some 2, .mv (.t 6), none⟩])
  (.seq (.region
      [⟨some 7, .mv (.t 1), none⟩,
        ⟨some 8, .call F_sha_Initial [], none⟩,
        ⟨some 9, .build ([.pnil, .int .u32 0, .int .u32 0, .int .u32 0, .int .u32 0, .int .u32 0, .int .u32 0, .int .u32 0, .int .u32 0]) [(0, 1, .t 7), (1, 8, .t 8)], none⟩,
        ⟨some 10, .box (.t 9), none⟩,
        ⟨some 0, .mv (.t 10), none⟩])
  (.ret))))
theorem t_sha_New : A F_sha_New = some c_sha_New := by kernel_rfl

noncomputable def c_sha_spread : AFn := AFn.mk 63 [.cellN 2 64]
  (.seq (.region
      [⟨some 2, .alloc (rep 64 (.int .u32 0)), none⟩])
  (.seq (.region
      [⟨some 3, .alloc (rep 64 (.int .u32 0)), none⟩])
  (.seq (.region
      [⟨some 12, .mv (.t 0), none⟩,
        ⟨some 13, .call F_words_TakeBig32 [.t 12], none⟩,
        ⟨some 11, .mv (.t 13), none⟩,
        ⟨some 14, .extract (.t 11) 0, none⟩,
        ⟨some 15, .extract (.t 11) 1, none⟩,
        ⟨some 4, .mv (.t 14), none⟩,
        ⟨some 5, .mv (.t 15), none⟩])
  (.seq (.region
      [⟨some 16, .sliceArr 64 1 (.t 3) none (some (.k (.c (.int .i64 16)))), none⟩,
        ⟨some 17, .mv (.t 4), none⟩,
        ⟨some 18, .copy 1 (.t 16) (.t 17), none⟩])
  (.seq (.seq (.region
        [⟨some 6, .mv (.k (.c (.int .i64 16))), none⟩])
    (.block 0
      (.loop
        (.seq (.seq (.region
              [⟨some 19, .mv (.t 6), none⟩,
                ⟨some 20, .bin .lss (.t 19) (.k (.c (.int .i64 64))), none⟩])
          (.cond (.t 20)
            (.skip)
            (.exit 0)))
        (.seq (.block 1
            (.seq (.draw
                [⟨some 23, .mv (.t 6), none⟩,
                  ⟨some 24, .bin .sub (.t 23) (.k (.c (.int .i64 15))), none⟩,
                  ⟨some 25, .idxArr 64 1 (.t 3) (.t 24), none⟩,
                  ⟨some 26, .load1 (.t 25), none⟩,
                  ⟨some 27, .mv (.t 6), none⟩,
                  ⟨some 28, .bin .sub (.t 27) (.k (.c (.int .i64 2))), none⟩,
                  ⟨some 29, .idxArr 64 1 (.t 3) (.t 28), none⟩,
                  ⟨some 30, .load1 (.t 29), none⟩,
                  ⟨some 7, .mv (.t 26), none⟩]
                [⟨some 8, .mv (.t 30), none⟩])
            (.seq (.region
                [⟨some 31, .mv (.t 7), none⟩,
                  ⟨some 32, .call F_words_Right32 [.t 31, .k (.c (.int .i64 7))], none⟩,
                  ⟨some 33, .mv (.t 7), none⟩,
                  ⟨some 34, .call F_words_Right32 [.t 33, .k (.c (.int .i64 18))], none⟩,
                  ⟨some 35, .bin .xor (.t 32) (.t 34), none⟩,
                  ⟨some 36, .mv (.t 7), none⟩,
                  ⟨some 37, .bin .shr (.t 36) (.k (.c (.int .u64 3))), none⟩,
                  ⟨some 38, .bin .xor (.t 35) (.t 37), none⟩,
                  ⟨some 9, .mv (.t 38), none⟩])
            (.seq (.region
                [⟨some 39, .mv (.t 8), none⟩,
                  ⟨some 40, .call F_words_Right32 [.t 39, .k (.c (.int .i64 17))], none⟩,
                  ⟨some 41, .mv (.t 8), none⟩,
                  ⟨some 42, .call F_words_Right32 [.t 41, .k (.c (.int .i64 19))], none⟩,
                  ⟨some 43, .bin .xor (.t 40) (.t 42), none⟩,
                  ⟨some 44, .mv (.t 8), none⟩,
                  ⟨some 45, .bin .shr (.t 44) (.k (.c (.int .u64 10))), none⟩,
                  ⟨some 46, .bin .xor (.t 43) (.t 45), none⟩,
                  ⟨some 10, .mv (.t 46), none⟩])
            (.draw
              [⟨some 47, .mv (.t 6), none⟩,
                ⟨some 48, .mv (.t 6), none⟩,
                ⟨some 49, .bin .sub (.t 48) (.k (.c (.int .i64 16))), none⟩,
                ⟨some 50, .idxArr 64 1 (.t 3) (.t 49), none⟩,
                ⟨some 51, .load1 (.t 50), none⟩,
                ⟨some 52, .mv (.t 9), none⟩,
                ⟨some 53, .bin .add (.t 51) (.t 52), none⟩,
                ⟨some 54, .mv (.t 6), none⟩,
                ⟨some 55, .bin .sub (.t 54) (.k (.c (.int .i64 7))), none⟩,
                ⟨some 56, .idxArr 64 1 (.t 3) (.t 55), none⟩,
                ⟨some 57, .load1 (.t 56), none⟩,
                ⟨some 58, .bin .add (.t 53) (.t 57), none⟩,
                ⟨some 59, .mv (.t 10), none⟩,
                ⟨some 60, .bin .add (.t 58) (.t 59), none⟩]
              [⟨some 61, .idxArr 64 1 (.t 3) (.t 47), none⟩,
                ⟨none, .store 1 (.t 61) (.t 60), none⟩])))))
        (.region
          [⟨some 21, .mv (.t 6), none⟩,
            ⟨some 22, .bin .add (.t 21) (.k (.c (.int .i64 1))), none⟩,
            ⟨some 6, .mv (.t 22), none⟩]))))))
  (.seq (.region
      [⟨some 62, .loadN 64 (.t 3), none⟩,
        ⟨none, .store 64 (.t 2) (.t 62), none⟩])
  (.ret)))))))
theorem t_sha_spread : A F_sha_spread = some c_sha_spread := by kernel_rfl

noncomputable def c_sha_constants : AFn := AFn.mk 2 [.cellN 0 64]
  (.seq (.region
      [⟨some 0, .alloc (rep 64 (.int .u32 0)), none⟩])
  (.seq (.region
      [⟨some 1, .build (rep 64 (.int .u32 0)) [(0, 1, .k (.c (.int .u32 1116352408))), (1, 1, .k (.c (.int .u32 1899447441))), (2, 1, .k (.c (.int .u32 3049323471))), (3, 1, .k (.c (.int .u32 3921009573))), (4, 1, .k (.c (.int .u32 961987163))), (5, 1, .k (.c (.int .u32 1508970993))), (6, 1, .k (.c (.int .u32 2453635748))), (7, 1, .k (.c (.int .u32 2870763221))), (8, 1, .k (.c (.int .u32 3624381080))), (9, 1, .k (.c (.int .u32 310598401))), (10, 1, .k (.c (.int .u32 607225278))), (11, 1, .k (.c (.int .u32 1426881987))), (12, 1, .k (.c (.int .u32 1925078388))), (13, 1, .k (.c (.int .u32 2162078206))), (14, 1, .k (.c (.int .u32 2614888103))), (15, 1, .k (.c (.int .u32 3248222580))), (16, 1, .k (.c (.int .u32 3835390401))), (17, 1, .k (.c (.int .u32 4022224774))), (18, 1, .k (.c (.int .u32 264347078))), (19, 1, .k (.c (.int .u32 604807628))), (20, 1, .k (.c (.int .u32 770255983))), (21, 1, .k (.c (.int .u32 1249150122))), (22, 1, .k (.c (.int .u32 1555081692))), (23, 1, .k (.c (.int .u32 1996064986))), (24, 1, .k (.c (.int .u32 2554220882))), (25, 1, .k (.c (.int .u32 2821834349))), (26, 1, .k (.c (.int .u32 2952996808))), (27, 1, .k (.c (.int .u32 3210313671))), (28, 1, .k (.c (.int .u32 3336571891))), (29, 1, .k (.c (.int .u32 3584528711))), (30, 1, .k (.c (.int .u32 113926993))), (31, 1, .k (.c (.int .u32 338241895))), (32, 1, .k (.c (.int .u32 666307205))), (33, 1, .k (.c (.int .u32 773529912))), (34, 1, .k (.c (.int .u32 1294757372))), (35, 1, .k (.c (.int .u32 1396182291))), (36, 1, .k (.c (.int .u32 1695183700))), (37, 1, .k (.c (.int .u32 1986661051))), (38, 1, .k (.c (.int .u32 2177026350))), (39, 1, .k (.c (.int .u32 2456956037))), (40, 1, .k (.c (.int .u32 2730485921))), (41, 1, .k (.c (.int .u32 2820302411))), (42, 1, .k (.c (.int .u32 3259730800))), (43, 1, .k (.c (.int .u32 3345764771))), (44, 1, .k (.c (.int .u32 3516065817))), (45, 1, .k (.c (.int .u32 3600352804))), (46, 1, .k (.c (.int .u32 4094571909))), (47, 1, .k (.c (.int .u32 275423344))), (48, 1, .k (.c (.int .u32 430227734))), (49, 1, .k (.c (.int .u32 506948616))), (50, 1, .k (.c (.int .u32 659060556))), (51, 1, .k (.c (.int .u32 883997877))), (52, 1, .k (.c (.int .u32 958139571))), (53, 1, .k (.c (.int .u32 1322822218))), (54, 1, .k (.c (.int .u32 1537002063))), (55, 1, .k (.c (.int .u32 1747873779))), (56, 1, .k (.c (.int .u32 1955562222))), (57, 1, .k (.c (.int .u32 2024104815))), (58, 1, .k (.c (.int .u32 2227730452))), (59, 1, .k (.c (.int .u32 2361852424))), (60, 1, .k (.c (.int .u32 2428436474))), (61, 1, .k (.c (.int .u32 2756734187))), (62, 1, .k (.c (.int .u32 3204031479))), (63, 1, .k (.c (.int .u32 3329325298)))], none⟩,
        ⟨none, .store 64 (.t 0) (.t 1), none⟩])
  (.ret)))
theorem t_sha_constants : A F_sha_constants = some c_sha_constants := by kernel_rfl
end PK

/- Package pestleref05 as code of the abstract machine. -/
namespace PK
open Go PAbs

end PK

/- SHA-256, plain; turned words and spread, walked. -/
namespace PK
open Go PAbs
set_option linter.unusedSimpArgs false
set_option linter.unusedVariables false
set_option maxRecDepth 100000
set_option maxHeartbeats 2000000

/-! words of 32 bits -/
def ad (a b : Nat) : Nat := (a + b) % 4294967296
theorem ad_lt (a b : Nat) : ad a b < 4294967296 := Nat.mod_lt _ (by decide)
theorem wrap_ad (a b : Nat) : IntKind.u32.wrap ((a : Int) + (b : Int)) = ((ad a b : Nat) : Int) := by rw [wrap32]; simp only [ad]; omega
theorem xo_lt {a b : Nat} (ha : a < 4294967296) (hb : b < 4294967296) : a ^^^ b < 4294967296 := Nat.xor_lt_two_pow (n := 32) ha hb
theorem an_lt {a b : Nat} (ha : a < 4294967296) : a &&& b < 4294967296 := Nat.lt_of_le_of_lt Nat.and_le_left ha
theorem xo32 {a b : Nat} (ha : a < 4294967296) (hb : b < 4294967296) : bitsA .xor .u32 (a : Int) (b : Int) = ((a ^^^ b : Nat) : Int) := xor_of rfl ha hb
theorem an32 {a b : Nat} (ha : a < 4294967296) (hb : b < 4294967296) : bitsA .and .u32 (a : Int) (b : Int) = ((a &&& b : Nat) : Int) := and_of rfl ha hb
theorem not32 {a : Nat} (ha : a < 4294967296) : bitsA .xor .u32 4294967295 (a : Int) = ((4294967295 - a : Nat) : Int) := by
  have h : bitsA .xor .u32 ((4294967295 : Nat) : Int) (a : Int) = ((4294967295 ^^^ a : Nat) : Int) := xor_of rfl (by decide) ha
  refine h.trans ?_
  congr 1
  have e : (BitVec.allOnes 32 ^^^ BitVec.ofNat 32 a).toNat = (~~~ BitVec.ofNat 32 a).toNat := by rw [BitVec.allOnes_xor]
  rw [BitVec.toNat_xor, BitVec.toNat_not, BitVec.toNat_ofNat, BitVec.toNat_allOnes, Nat.mod_eq_of_lt (by exact ha)] at e
  exact e
def rt (n x : Nat) : Nat := rr 32 n x
theorem rt_lt {n x : Nat} (hn : n ≤ 32) (hx : x < 4294967296) : rt n x < 4294967296 := rr_lt hn hx
theorem places_lit {n : Nat} (h : n < 32) : places 32 (n : Int) = n := by simp only [places]; omega

def sg0 (x : Nat) : Nat := rt 7 x ^^^ rt 18 x ^^^ x / 8
def sg1 (x : Nat) : Nat := rt 17 x ^^^ rt 19 x ^^^ x / 1024
theorem sg0_lt {x : Nat} (h : x < 4294967296) : sg0 x < 4294967296 := xo_lt (xo_lt (rt_lt (by omega) h) (rt_lt (by omega) h)) (by omega)
theorem sg1_lt {x : Nat} (h : x < 4294967296) : sg1 x < 4294967296 := xo_lt (xo_lt (rt_lt (by omega) h) (rt_lt (by omega) h)) (by omega)
def nextW (w : List Nat) (i : Nat) : Nat := ad (ad (ad (w.getD (i - 16) 0) (sg0 (w.getD (i - 15) 0))) (w.getD (i - 7) 0)) (sg1 (w.getD (i - 2) 0))
def exW (w : List Nat) : Nat → List Nat
  | 0 => w
  | i + 1 => (exW w i).set (16 + i) (nextW (exW w i) (16 + i))
def Wd (n : Nat) (l : List Nat) : Prop := l.length = n ∧ ∀ k, l.getD k 0 < 4294967296
theorem Wd.set {n : Nat} {l : List Nat} (h : Wd n l) {i v : Nat} (hv : v < 4294967296) : Wd n (l.set i v) := by
  refine ⟨by rw [List.length_set]; exact h.1, fun k => ?_⟩
  rw [getD_set_]; split
  · exact hv
  · exact h.2 k
theorem Wd.ex {w : List Nat} (h : Wd 64 w) : ∀ i, Wd 64 (exW w i)
  | 0 => h
  | i + 1 => (Wd.ex h i).set (ad_lt _ _)
theorem Wd.len {n : Nat} {l : List Nat} (h : Wd n l) : (W32 l).length = n := by rw [W32_length]; exact h.1
theorem Wd.get {n : Nat} {l : List Nat} (h : Wd n l) {i : Nat} (hi : i < n) : (W32 l)[i]? = some (.int .u32 ((l.getD i 0 : Nat) : Int)) := W32_get (by rw [h.1]; exact hi)
theorem W32_put {l : List Nat} {i n : Nat} : (W32 l).set i (.int .u32 (n : Int)) = W32 (l.set i n) := by simp [W32, List.map_set]
theorem W32_app {l m : List Nat} : W32 (l ++ m) = W32 l ++ W32 m := by simp [W32]
def wide (ws : List Nat) : List Nat := ws ++ List.replicate 48 0
theorem Wd.wide {ws : List Nat} (h : Wd 16 ws) : Wd 64 (wide ws) := by
  refine ⟨by simp [PK.wide, h.1], fun k => ?_⟩
  simp only [PK.wide, List.getD_eq_getElem?_getD, List.getElem?_append]
  split
  · have := h.2 k; rwa [List.getD_eq_getElem?_getD] at this
  · rw [List.getElem?_replicate]; split <;> decide

section
variable (H : AHeap)
theorem AC_R32 (n x : Nat) (hn : n < 32) (hx : x < 4294967296) : AC A H.length F_words_Right32 [.c (.int .u32 (x : Int)), .c (.int .i64 (n : Int))] H (fun v H' => v = .c (.int .u32 ((rt n x : Nat) : Int)) ∧ H = H') := by
  refine (AC_Right32 H.length H x n hx).mono fun v H' ⟨h1, h2⟩ => ⟨?_, h2.symm⟩
  rw [h1, places_lit hn]; rfl


def sp5I (p : Nat) (w : List Nat) (H0 : AHeap) (i : Nat) (fr : AFrame) (H : AHeap) : Prop := Chg (· = p + 1) H0 H ∧ hown H (p + 1) = some (W32 (exW w i)) ∧ (∃ s : Nat → AV, fr = [s 0, s 1, .c (.ptr p 0), .c (.ptr (p + 1) 0), s 4, s 5, .c (.int .i64 ((16 + i : Nat) : Int)), s 7, s 8, s 9, s 10, s 11, s 12, s 13, s 14, s 15, s 16, s 17, s 18, s 19, s 20, s 21, s 22, s 23, s 24, s 25, s 26, s 27, s 28, s 29, s 30, s 31, s 32, s 33, s 34, s 35, s 36, s 37, s 38, s 39, s 40, s 41, s 42, s 43, s 44, s 45, s 46, s 47, s 48, s 49, s 50, s 51, s 52, s 53, s 54, s 55, s 56, s 57, s 58, s 59, s 60, s 61, s 62])
theorem AC_spread (y : Cell) (bs : List Nat) (hy : Rd H y 1 (W8 bs)) (hl : bs.length = 64) (hb : ∀ k, bs.getD k 0 < 256) (hws : Wd 16 (tk 4 (3 - ·) bs bs.length)) :
    AC A H.length F_sha_spread [.c y] H (fun v H' => v = .agg (W32 (exW (wide (tk 4 (3 - ·) bs bs.length)) 48))) := by
  refine AC_enter t_sha_spread ?_; simp only [c_sha_spread, enterA, List.replicate, List.length_cons, List.length_nil, Nat.reduceAdd, Nat.reduceSub, List.cons_append, List.nil_append]
  (repeat (first | with_reducible (first | refine thenQ_n ?_ | refine blockQ_n ?_ | refine thenQ_e ?_ | refine thenQ_r ?_ | refine blockQ_r ?_ | refine blockQ_s ?_ | refine blockQ_o rfl ?_) | refine AW_skip ?_ | refine AW_seq ?_ | refine AW_ops ?_ | refine AW_blockS ?_ | refine AW_blockR ?_ | refine AW_blockD ?_ | refine AW_blockC ?_ | refine AO_nil ?_ | refine AW_draw ?_ | refine AW_draw3 ?_ | refine AW_blockD3 ?_ | (refine AW_drawA ?_; simp only [atBlk, Sm]) | refine AHd_nil ?_ | with_reducible (first | refine AP_at ?_ | refine AHP_at ?_) | (with_reducible (first | apply AO_any | apply AHd_any | apply AP_go | apply AHP_go); focus (simp only [Sm, wantedA, execA, stepA, List.getElem?_cons_zero, List.getElem?_cons_succ, if_true, if_false, binA, binInt, unA, eqA, Option.map, eq_self, reduceCtorEq, ite_true, ite_false, fitsAll, CK.fits, fillA, AV.cells, writeN, sliceCells, appendA, lenA, i64, loA, hiA, Nat.reduceAdd, Nat.reduceMul, Nat.reduceDiv, Nat.reduceSub, Nat.reduceLeDiff, Nat.reduceLT, Int.reduceLE, Int.reduceLT, foldA, maxA, minA, Int.reduceBEq, Int.reduceBNe, Int.reduceGT, Int.reduceGE, Int.reduceEq, Int.reduceNe, Int.reduceToNat, AOp.stops, ↓want_eq, ↓exec_lenX, ↓exec_storeX, ↓exec_storeN, storeN_one, ↓exec_bsX, ↓exec_sliceX, ↓exec_copyX, ↓exec_appNil, ↓exec_carryX, Nat.sub_zero, rep_len]; with_reducible first | exact EqP.at_ | exact EqP.cont | exact EqP.hcont | exact EqP.gate | exact EqP.hgate)) | (refine AW_ift ?_ ?_; focus (simp only [Sm]; done)) | (refine AW_iff ?_ ?_; focus (simp only [Sm]; done))))
  have o2 : hown (H ++ [Blk.own (rep 64 (.int .u32 0))] ++ [Blk.own (rep 64 (.int .u32 0))]) H.length = some (rep 64 (.int .u32 0)) := hown_app hown_last
  have o3 : hown (H ++ [Blk.own (rep 64 (.int .u32 0))] ++ [Blk.own (rep 64 (.int .u32 0))]) (H.length + 1) = some (rep 64 (.int .u32 0)) := by
    have := hown_last (H := H ++ [Blk.own (rep 64 (.int .u32 0))]) (cs := rep 64 (.int .u32 0)); simpa using this
  have hy1 : Rd (H ++ [Blk.own (rep 64 (.int .u32 0))] ++ [Blk.own (rep 64 (.int .u32 0))]) y 1 (W8 bs) := by rw [List.append_assoc]; exact hy.kept (Kept.push _ _ _)
  have l1 : (H ++ [Blk.own (rep 64 (.int .u32 0))] ++ [Blk.own (rep 64 (.int .u32 0))]).length = H.length + 2 := by simp
  generalize H ++ [Blk.own (rep 64 (.int .u32 0))] ++ [Blk.own (rep 64 (.int .u32 0))] = H1 at *
  refine AO_call rfl (((AC_TakeBig32 H1 y bs hy1 (by omega) hb).kept (Nat.le_refl _)).floor (by omega)) ?_
  rintro v H2 ⟨hT, k2⟩
  rcases hT with ⟨h', _⟩ | ⟨_, x, rfl, hx⟩
  · omega
  generalize tk 4 (3 - ·) bs bs.length = ws at *
  have o22 : hown H2 H.length = some (rep 64 (.int .u32 0)) := by rw [k2.hown (by omega) (by omega)]; exact o2
  have o32 : hown H2 (H.length + 1) = some (rep 64 (.int .u32 0)) := by rw [k2.hown (by omega) (by omega)]; exact o3
  have hc3 := hcells_own o32
  have e64 : 0 + 64 * 1 ≤ (rep 64 (Cell.int .u32 0)).length := by rw [rep_len]; omega
  have rx := hx.rd
  obtain ⟨H3, s3, o33, c3, l3⟩ : ∃ H3, copyX 1 H.length H2 (.c (.slc (H.length + 1) 0 16 1)) (.c x) = some (.c (.int .i64 16), H3) ∧ hown H3 (H.length + 1) = some (W32 (wide ws)) ∧ Chg (· = H.length + 1) H2 H3 ∧ H3.length = H2.length := by
    refine ⟨_, copyX_own o32 (by omega) rx (k := 16) (by rw [hws.len]; rfl) (by rw [rep_len]; omega), ?_, Chg.set rfl, by simp⟩
    have ht : (W32 ws).take 16 = W32 ws := List.take_of_length_le (by rw [hws.len]; omega)
    have hd : (rep 64 (Cell.int .u32 0)).drop (0 + 16) = W32 (List.replicate 48 0) := rfl
    rw [hown_set (hown_lt o32), ht, hd, List.take_zero, List.nil_append, PK.wide, W32_app]
  (repeat (first | with_reducible (first | refine thenQ_n ?_ | refine blockQ_n ?_ | refine thenQ_e ?_ | refine thenQ_r ?_ | refine blockQ_r ?_ | refine blockQ_s ?_ | refine blockQ_o rfl ?_) | refine AW_skip ?_ | refine AW_seq ?_ | refine AW_ops ?_ | refine AW_blockS ?_ | refine AW_blockR ?_ | refine AW_blockD ?_ | refine AW_blockC ?_ | refine AO_nil ?_ | refine AW_draw ?_ | refine AW_draw3 ?_ | refine AW_blockD3 ?_ | (refine AW_drawA ?_; simp only [atBlk, Sm]) | refine AHd_nil ?_ | with_reducible (first | refine AP_at ?_ | refine AHP_at ?_) | (with_reducible (first | apply AO_any | apply AHd_any | apply AP_go | apply AHP_go); focus (simp only [Sm, wantedA, execA, stepA, List.getElem?_cons_zero, List.getElem?_cons_succ, if_true, if_false, binA, binInt, unA, eqA, Option.map, eq_self, reduceCtorEq, ite_true, ite_false, fitsAll, CK.fits, fillA, AV.cells, writeN, sliceCells, appendA, lenA, i64, loA, hiA, Nat.reduceAdd, Nat.reduceMul, Nat.reduceDiv, Nat.reduceSub, Nat.reduceLeDiff, Nat.reduceLT, Int.reduceLE, Int.reduceLT, foldA, maxA, minA, Int.reduceBEq, Int.reduceBNe, Int.reduceGT, Int.reduceGE, Int.reduceEq, Int.reduceNe, Int.reduceToNat, AOp.stops, ↓want_eq, ↓exec_lenX, ↓exec_storeX, ↓exec_storeN, storeN_one, ↓exec_bsX, ↓exec_sliceX, ↓exec_copyX, ↓exec_appNil, ↓exec_carryX, Nat.sub_zero, rep_len, hc3, e64, s3]; with_reducible first | exact EqP.at_ | exact EqP.cont | exact EqP.hcont | exact EqP.gate | exact EqP.hgate)) | (refine AW_ift ?_ ?_; focus (simp only [Sm]; done)) | (refine AW_iff ?_ ?_; focus (simp only [Sm]; done))))
  have o23 := c3.hown (by omega : ¬ H.length = H.length + 1) o22
  have hW := hws.wide
  generalize wide ws = w at *
  generalize H.length = p at *
  refine AW_mid (fun e fr H' => e = .normal ∧ sp5I p w H3 48 fr H') ?_ ?_
  · refine AW_block (AW_up (sp5I p w H3) 48 ⟨Chg.refl _ _, o33, stale _ _ rfl⟩ ?_)
    rintro i fr H4 hi ⟨c4, o4, st, rfl⟩
    have hWi := hW.ex i
    have hsucc : exW w (i + 1) = (exW w i).set (16 + i) (nextW (exW w i) (16 + i)) := rfl
    generalize hu : exW w i = u at *
    (repeat (first | with_reducible (first | refine thenQ_n ?_ | refine blockQ_n ?_ | refine thenQ_e ?_ | refine thenQ_r ?_ | refine blockQ_r ?_ | refine blockQ_s ?_ | refine blockQ_o rfl ?_) | refine AW_skip ?_ | refine AW_seq ?_ | refine AW_ops ?_ | refine AW_blockS ?_ | refine AW_blockR ?_ | refine AW_blockD ?_ | refine AW_blockC ?_ | refine AO_nil ?_ | refine AW_draw ?_ | refine AW_draw3 ?_ | refine AW_blockD3 ?_ | (refine AW_drawA ?_; simp only [atBlk, Sm]) | refine AHd_nil ?_ | with_reducible (first | refine AP_at ?_ | refine AHP_at ?_) | (with_reducible (first | apply AO_any | apply AHd_any | apply AP_go | apply AHP_go); focus (simp only [Sm, wantedA, execA, stepA, List.getElem?_cons_zero, List.getElem?_cons_succ, if_true, if_false, binA, binInt, unA, eqA, Option.map, eq_self, reduceCtorEq, ite_true, ite_false, fitsAll, CK.fits, fillA, AV.cells, writeN, sliceCells, appendA, lenA, i64, loA, hiA, Nat.reduceAdd, Nat.reduceMul, Nat.reduceDiv, Nat.reduceSub, Nat.reduceLeDiff, Nat.reduceLT, Int.reduceLE, Int.reduceLT, foldA, maxA, minA, Int.reduceBEq, Int.reduceBNe, Int.reduceGT, Int.reduceGE, Int.reduceEq, Int.reduceNe, Int.reduceToNat, AOp.stops, ↓want_eq, ↓exec_lenX, ↓exec_storeX, ↓exec_storeN, storeN_one, ↓exec_bsX, ↓exec_sliceX, ↓exec_copyX, ↓exec_appNil, ↓exec_carryX, Nat.sub_zero, rep_len]; with_reducible first | exact EqP.at_ | exact EqP.cont | exact EqP.hcont | exact EqP.gate | exact EqP.hgate)) | (refine AW_ift ?_ ?_; focus (simp only [Sm]; done)) | (refine AW_iff ?_ ?_; focus (simp only [Sm]; done))))
    refine AW_cond rfl ?_ ?_ <;> intro ht
    · have ht : ((16 + i : Nat) : Int) < 64 := of_decide_eq_true ht
      have hi2 : i < 48 := by omega
      have e1 : IntKind.i64.wrap (((16 + i : Nat) : Int) - 15) = ((16 + i - 15 : Nat) : Int) := by rw [i64_of (by omega) (by omega)]; omega
      have e2 : IntKind.i64.wrap (((16 + i : Nat) : Int) - 2) = ((16 + i - 2 : Nat) : Int) := by rw [i64_of (by omega) (by omega)]; omega
      have e3 : IntKind.i64.wrap (((16 + i : Nat) : Int) - 16) = ((16 + i - 16 : Nat) : Int) := by rw [i64_of (by omega) (by omega)]; omega
      have e4 : IntKind.i64.wrap (((16 + i : Nat) : Int) - 7) = ((16 + i - 7 : Nat) : Int) := by rw [i64_of (by omega) (by omega)]; omega
      have b1 : ((16 + i - 15 : Nat) : Int) < 64 := by omega
      have b2 : ((16 + i - 2 : Nat) : Int) < 64 := by omega
      have b3 : ((16 + i - 16 : Nat) : Int) < 64 := by omega
      have b4 : ((16 + i - 7 : Nat) : Int) < 64 := by omega
      have g1 := hWi.get (i := 16 + i - 15) (by omega)
      have g2 := hWi.get (i := 16 + i - 2) (by omega)
      have g3 := hWi.get (i := 16 + i - 16) (by omega)
      have g4 := hWi.get (i := 16 + i - 7) (by omega)
      have w1 := hWi.2 (16 + i - 15)
      have w2 := hWi.2 (16 + i - 2)
      have w3 := hWi.2 (16 + i - 16)
      have w4 := hWi.2 (16 + i - 7)
      have hn : nextW u (16 + i) = ad (ad (ad (u.getD (16 + i - 16) 0) (sg0 (u.getD (16 + i - 15) 0))) (u.getD (16 + i - 7) 0)) (sg1 (u.getD (16 + i - 2) 0)) := rfl
      rw [hn] at hsucc
      generalize 16 + i - 15 = j1 at *
      generalize 16 + i - 2 = j2 at *
      generalize 16 + i - 16 = j3 at *
      generalize 16 + i - 7 = j4 at *
      generalize u.getD j1 0 = v1 at *
      generalize u.getD j2 0 = v2 at *
      generalize u.getD j3 0 = v3 at *
      generalize u.getD j4 0 = v4 at *
      have hc4 := hcells_own o4
      have l4 := hown_lt o4
      have n3 : ¬ ((3 : Int) < 0) := by omega
      have n10 : ¬ ((10 : Int) < 0) := by omega
      have h8 : shrA .u32 (v1 : Int) 3 = ((v1 / 8 : Nat) : Int) := shr_n (k := .u32) (x := v1) (p := 3) (by decide)
      have h1024 : shrA .u32 (v2 : Int) 10 = ((v2 / 1024 : Nat) : Int) := shr_n (k := .u32) (x := v2) (p := 10) (by decide)
      have s0 := sg0_lt w1
      have s1 := sg1_lt w2
      have r7 := rt_lt (n := 7) (by omega) w1
      have r18 := rt_lt (n := 18) (by omega) w1
      have r17 := rt_lt (n := 17) (by omega) w2
      have r19 := rt_lt (n := 19) (by omega) w2
      have x1 := xo32 r7 r18
      have x2 : bitsA .xor .u32 ((rt 7 v1 ^^^ rt 18 v1 : Nat) : Int) ((v1 / 8 : Nat) : Int) = ((sg0 v1 : Nat) : Int) := xo32 (xo_lt r7 r18) (by omega)
      have x3 := xo32 r17 r19
      have x4 : bitsA .xor .u32 ((rt 17 v2 ^^^ rt 19 v2 : Nat) : Int) ((v2 / 1024 : Nat) : Int) = ((sg1 v2 : Nat) : Int) := xo32 (xo_lt r17 r19) (by omega)
      (repeat (first | with_reducible (first | refine thenQ_n ?_ | refine blockQ_n ?_ | refine thenQ_e ?_ | refine thenQ_r ?_ | refine blockQ_r ?_ | refine blockQ_s ?_ | refine blockQ_o rfl ?_) | refine AW_skip ?_ | refine AW_seq ?_ | refine AW_ops ?_ | refine AW_blockS ?_ | refine AW_blockR ?_ | refine AW_blockD ?_ | refine AW_blockC ?_ | refine AO_nil ?_ | refine AW_draw ?_ | refine AW_draw3 ?_ | refine AW_blockD3 ?_ | (refine AW_drawA ?_; simp only [atBlk, Sm]) | refine AHd_nil ?_ | with_reducible (first | refine AP_at ?_ | refine AHP_at ?_) | (with_reducible (first | apply AO_any | apply AHd_any | apply AP_go | apply AHP_go); focus (simp only [Sm, wantedA, execA, stepA, List.getElem?_cons_zero, List.getElem?_cons_succ, if_true, if_false, binA, binInt, unA, eqA, Option.map, eq_self, reduceCtorEq, ite_true, ite_false, fitsAll, CK.fits, fillA, AV.cells, writeN, sliceCells, appendA, lenA, i64, loA, hiA, Nat.reduceAdd, Nat.reduceMul, Nat.reduceDiv, Nat.reduceSub, Nat.reduceLeDiff, Nat.reduceLT, Int.reduceLE, Int.reduceLT, foldA, maxA, minA, Int.reduceBEq, Int.reduceBNe, Int.reduceGT, Int.reduceGE, Int.reduceEq, Int.reduceNe, Int.reduceToNat, AOp.stops, ↓want_eq, ↓exec_lenX, ↓exec_storeX, ↓exec_storeN, storeN_one, ↓exec_bsX, ↓exec_sliceX, ↓exec_copyX, ↓exec_appNil, ↓exec_carryX, Nat.sub_zero, rep_len, hc4, e1, e2, b1, b2, g1, g2, Nat.zero_add]; with_reducible first | exact EqP.at_ | exact EqP.cont | exact EqP.hcont | exact EqP.gate | exact EqP.hgate)) | (refine AW_ift ?_ ?_; focus (simp only [Sm]; done)) | (refine AW_iff ?_ ?_; focus (simp only [Sm]; done))))
      refine AO_call rfl ((AC_R32 H4 7 v1 (by omega) w1).floor (by omega)) ?_
      rintro _ _ ⟨rfl, rfl⟩
      (repeat (first | with_reducible (first | refine thenQ_n ?_ | refine blockQ_n ?_ | refine thenQ_e ?_ | refine thenQ_r ?_ | refine blockQ_r ?_ | refine blockQ_s ?_ | refine blockQ_o rfl ?_) | refine AW_skip ?_ | refine AW_seq ?_ | refine AW_ops ?_ | refine AW_blockS ?_ | refine AW_blockR ?_ | refine AW_blockD ?_ | refine AW_blockC ?_ | refine AO_nil ?_ | refine AW_draw ?_ | refine AW_draw3 ?_ | refine AW_blockD3 ?_ | (refine AW_drawA ?_; simp only [atBlk, Sm]) | refine AHd_nil ?_ | with_reducible (first | refine AP_at ?_ | refine AHP_at ?_) | (with_reducible (first | apply AO_any | apply AHd_any | apply AP_go | apply AHP_go); focus (simp only [Sm, wantedA, execA, stepA, List.getElem?_cons_zero, List.getElem?_cons_succ, if_true, if_false, binA, binInt, unA, eqA, Option.map, eq_self, reduceCtorEq, ite_true, ite_false, fitsAll, CK.fits, fillA, AV.cells, writeN, sliceCells, appendA, lenA, i64, loA, hiA, Nat.reduceAdd, Nat.reduceMul, Nat.reduceDiv, Nat.reduceSub, Nat.reduceLeDiff, Nat.reduceLT, Int.reduceLE, Int.reduceLT, foldA, maxA, minA, Int.reduceBEq, Int.reduceBNe, Int.reduceGT, Int.reduceGE, Int.reduceEq, Int.reduceNe, Int.reduceToNat, AOp.stops, ↓want_eq, ↓exec_lenX, ↓exec_storeX, ↓exec_storeN, storeN_one, ↓exec_bsX, ↓exec_sliceX, ↓exec_copyX, ↓exec_appNil, ↓exec_carryX, Nat.sub_zero, rep_len]; with_reducible first | exact EqP.at_ | exact EqP.cont | exact EqP.hcont | exact EqP.gate | exact EqP.hgate)) | (refine AW_ift ?_ ?_; focus (simp only [Sm]; done)) | (refine AW_iff ?_ ?_; focus (simp only [Sm]; done))))
      refine AO_call rfl ((AC_R32 H4 18 v1 (by omega) w1).floor (by omega)) ?_
      rintro _ _ ⟨rfl, rfl⟩
      (repeat (first | with_reducible (first | refine thenQ_n ?_ | refine blockQ_n ?_ | refine thenQ_e ?_ | refine thenQ_r ?_ | refine blockQ_r ?_ | refine blockQ_s ?_ | refine blockQ_o rfl ?_) | refine AW_skip ?_ | refine AW_seq ?_ | refine AW_ops ?_ | refine AW_blockS ?_ | refine AW_blockR ?_ | refine AW_blockD ?_ | refine AW_blockC ?_ | refine AO_nil ?_ | refine AW_draw ?_ | refine AW_draw3 ?_ | refine AW_blockD3 ?_ | (refine AW_drawA ?_; simp only [atBlk, Sm]) | refine AHd_nil ?_ | with_reducible (first | refine AP_at ?_ | refine AHP_at ?_) | (with_reducible (first | apply AO_any | apply AHd_any | apply AP_go | apply AHP_go); focus (simp only [Sm, wantedA, execA, stepA, List.getElem?_cons_zero, List.getElem?_cons_succ, if_true, if_false, binA, binInt, unA, eqA, Option.map, eq_self, reduceCtorEq, ite_true, ite_false, fitsAll, CK.fits, fillA, AV.cells, writeN, sliceCells, appendA, lenA, i64, loA, hiA, Nat.reduceAdd, Nat.reduceMul, Nat.reduceDiv, Nat.reduceSub, Nat.reduceLeDiff, Nat.reduceLT, Int.reduceLE, Int.reduceLT, foldA, maxA, minA, Int.reduceBEq, Int.reduceBNe, Int.reduceGT, Int.reduceGE, Int.reduceEq, Int.reduceNe, Int.reduceToNat, AOp.stops, ↓want_eq, ↓exec_lenX, ↓exec_storeX, ↓exec_storeN, storeN_one, ↓exec_bsX, ↓exec_sliceX, ↓exec_copyX, ↓exec_appNil, ↓exec_carryX, Nat.sub_zero, rep_len, x1, h8, n3, x2]; with_reducible first | exact EqP.at_ | exact EqP.cont | exact EqP.hcont | exact EqP.gate | exact EqP.hgate)) | (refine AW_ift ?_ ?_; focus (simp only [Sm]; done)) | (refine AW_iff ?_ ?_; focus (simp only [Sm]; done))))
      refine AO_call rfl ((AC_R32 H4 17 v2 (by omega) w2).floor (by omega)) ?_
      rintro _ _ ⟨rfl, rfl⟩
      (repeat (first | with_reducible (first | refine thenQ_n ?_ | refine blockQ_n ?_ | refine thenQ_e ?_ | refine thenQ_r ?_ | refine blockQ_r ?_ | refine blockQ_s ?_ | refine blockQ_o rfl ?_) | refine AW_skip ?_ | refine AW_seq ?_ | refine AW_ops ?_ | refine AW_blockS ?_ | refine AW_blockR ?_ | refine AW_blockD ?_ | refine AW_blockC ?_ | refine AO_nil ?_ | refine AW_draw ?_ | refine AW_draw3 ?_ | refine AW_blockD3 ?_ | (refine AW_drawA ?_; simp only [atBlk, Sm]) | refine AHd_nil ?_ | with_reducible (first | refine AP_at ?_ | refine AHP_at ?_) | (with_reducible (first | apply AO_any | apply AHd_any | apply AP_go | apply AHP_go); focus (simp only [Sm, wantedA, execA, stepA, List.getElem?_cons_zero, List.getElem?_cons_succ, if_true, if_false, binA, binInt, unA, eqA, Option.map, eq_self, reduceCtorEq, ite_true, ite_false, fitsAll, CK.fits, fillA, AV.cells, writeN, sliceCells, appendA, lenA, i64, loA, hiA, Nat.reduceAdd, Nat.reduceMul, Nat.reduceDiv, Nat.reduceSub, Nat.reduceLeDiff, Nat.reduceLT, Int.reduceLE, Int.reduceLT, foldA, maxA, minA, Int.reduceBEq, Int.reduceBNe, Int.reduceGT, Int.reduceGE, Int.reduceEq, Int.reduceNe, Int.reduceToNat, AOp.stops, ↓want_eq, ↓exec_lenX, ↓exec_storeX, ↓exec_storeN, storeN_one, ↓exec_bsX, ↓exec_sliceX, ↓exec_copyX, ↓exec_appNil, ↓exec_carryX, Nat.sub_zero, rep_len]; with_reducible first | exact EqP.at_ | exact EqP.cont | exact EqP.hcont | exact EqP.gate | exact EqP.hgate)) | (refine AW_ift ?_ ?_; focus (simp only [Sm]; done)) | (refine AW_iff ?_ ?_; focus (simp only [Sm]; done))))
      refine AO_call rfl ((AC_R32 H4 19 v2 (by omega) w2).floor (by omega)) ?_
      rintro _ _ ⟨rfl, rfl⟩
      have bi : 16 + i < 64 := by omega
      have esc : IntKind.i64.wrap (((16 + i : Nat) : Int) + 1) = ((16 + (i + 1) : Nat) : Int) := by rw [i64_of (by omega) (by omega)]; omega
      (repeat (first | with_reducible (first | refine thenQ_n ?_ | refine blockQ_n ?_ | refine thenQ_e ?_ | refine thenQ_r ?_ | refine blockQ_r ?_ | refine blockQ_s ?_ | refine blockQ_o rfl ?_) | refine AW_skip ?_ | refine AW_seq ?_ | refine AW_ops ?_ | refine AW_blockS ?_ | refine AW_blockR ?_ | refine AW_blockD ?_ | refine AW_blockC ?_ | refine AO_nil ?_ | refine AW_draw ?_ | refine AW_draw3 ?_ | refine AW_blockD3 ?_ | (refine AW_drawA ?_; simp only [atBlk, Sm]) | refine AHd_nil ?_ | with_reducible (first | refine AP_at ?_ | refine AHP_at ?_) | (with_reducible (first | apply AO_any | apply AHd_any | apply AP_go | apply AHP_go); focus (simp only [Sm, wantedA, execA, stepA, List.getElem?_cons_zero, List.getElem?_cons_succ, if_true, if_false, binA, binInt, unA, eqA, Option.map, eq_self, reduceCtorEq, ite_true, ite_false, fitsAll, CK.fits, fillA, AV.cells, writeN, sliceCells, appendA, lenA, i64, loA, hiA, Nat.reduceAdd, Nat.reduceMul, Nat.reduceDiv, Nat.reduceSub, Nat.reduceLeDiff, Nat.reduceLT, Int.reduceLE, Int.reduceLT, foldA, maxA, minA, Int.reduceBEq, Int.reduceBNe, Int.reduceGT, Int.reduceGE, Int.reduceEq, Int.reduceNe, Int.reduceToNat, AOp.stops, ↓want_eq, ↓exec_lenX, ↓exec_storeX, ↓exec_storeN, storeN_one, ↓exec_bsX, ↓exec_sliceX, ↓exec_copyX, ↓exec_appNil, ↓exec_carryX, Nat.sub_zero, rep_len, x3, h1024, n10, x4, hc4, e3, e4, b3, b4, g3, g4, Nat.zero_add, wrap_ad, ht, storeX_own o4 (by omega : p ≤ p + 1) (by rw [hWi.len]; exact bi : 16 + i < _), esc]; with_reducible first | exact EqP.at_ | exact EqP.cont | exact EqP.hcont | exact EqP.gate | exact EqP.hgate)) | (refine AW_ift ?_ ?_; focus (simp only [Sm]; done)) | (refine AW_iff ?_ ?_; focus (simp only [Sm]; done))))
      refine ⟨hi2, c4.trans (Chg.set (S := (· = p + 1)) rfl) fun _ _ h => h, ?_, stale _ _ rfl⟩
      rw [hown_set (hown_lt o4), W32_put, hsucc]
    · obtain rfl : i = 48 := by have : ¬ ((16 + i : Nat) : Int) < 64 := of_decide_eq_false ht; omega
      subst hu
      exact AW_exit ⟨rfl, c4, o4, stale _ _ rfl⟩
  rintro e fr H4 ⟨rfl, c4, o4, st, rfl⟩
  have o24 := c4.hown (by omega : ¬ p = p + 1) o23
  have hWe := hW.ex 48
  generalize exW w 48 = e at *
  have r4 : readN H4 (p + 1) 0 64 = some (W32 e) := by have := readN_all (hcells_own o4); rw [hWe.len] at this; exact this
  obtain ⟨H5, s5, o5, c5, l5⟩ := storeN_ex (n := 64) o24 (Nat.le_refl p) rep_len (W32 e) hWe.len
  have r5 : readN H5 p 0 64 = some (W32 e) := by have := readN_all (hcells_own o5); rw [hWe.len] at this; exact this
  (repeat (first | with_reducible (first | refine thenQ_n ?_ | refine blockQ_n ?_ | refine thenQ_e ?_ | refine thenQ_r ?_ | refine blockQ_r ?_ | refine blockQ_s ?_ | refine blockQ_o rfl ?_) | refine AW_skip ?_ | refine AW_seq ?_ | refine AW_ops ?_ | refine AW_blockS ?_ | refine AW_blockR ?_ | refine AW_blockD ?_ | refine AW_blockC ?_ | refine AO_nil ?_ | refine AW_draw ?_ | refine AW_draw3 ?_ | refine AW_blockD3 ?_ | (refine AW_drawA ?_; simp only [atBlk, Sm]) | refine AHd_nil ?_ | with_reducible (first | refine AP_at ?_ | refine AHP_at ?_) | (with_reducible (first | apply AO_any | apply AHd_any | apply AP_go | apply AHP_go); focus (simp only [Sm, wantedA, execA, stepA, List.getElem?_cons_zero, List.getElem?_cons_succ, if_true, if_false, binA, binInt, unA, eqA, Option.map, eq_self, reduceCtorEq, ite_true, ite_false, fitsAll, CK.fits, fillA, AV.cells, writeN, sliceCells, appendA, lenA, i64, loA, hiA, Nat.reduceAdd, Nat.reduceMul, Nat.reduceDiv, Nat.reduceSub, Nat.reduceLeDiff, Nat.reduceLT, Int.reduceLE, Int.reduceLT, foldA, maxA, minA, Int.reduceBEq, Int.reduceBNe, Int.reduceGT, Int.reduceGE, Int.reduceEq, Int.reduceNe, Int.reduceToNat, AOp.stops, ↓want_eq, ↓exec_lenX, ↓exec_storeX, ↓exec_storeN, storeN_one, ↓exec_bsX, ↓exec_sliceX, ↓exec_copyX, ↓exec_appNil, ↓exec_carryX, Nat.sub_zero, rep_len, ↓r4, s5]; with_reducible first | exact EqP.at_ | exact EqP.cont | exact EqP.hcont | exact EqP.gate | exact EqP.hgate)) | (refine AW_ift ?_ ?_; focus (simp only [Sm]; done)) | (refine AW_iff ?_ ?_; focus (simp only [Sm]; done))))
  exact AW_ret ⟨_, by simp only [outA, resA, ressA, AV.tv, Option.map_some, Sm, wantedA, execA, stepA, List.getElem?_cons_zero, List.getElem?_cons_succ, if_true, if_false, binA, binInt, unA, eqA, Option.map, eq_self, reduceCtorEq, ite_true, ite_false, fitsAll, CK.fits, fillA, AV.cells, writeN, sliceCells, appendA, lenA, i64, loA, hiA, Nat.reduceAdd, Nat.reduceMul, Nat.reduceDiv, Nat.reduceSub, Nat.reduceLeDiff, Nat.reduceLT, Int.reduceLE, Int.reduceLT, foldA, maxA, minA, r5] <;> with_reducible rfl, rfl⟩
end
end PK

/- SHA-256: the rounds, plain; Compress, walked. -/
namespace PK
open Go PAbs
set_option linter.unusedSimpArgs false
set_option linter.unusedVariables false
set_option maxRecDepth 100000
set_option maxHeartbeats 4000000

theorem getD_lt_of {l : List Nat} {M : Nat} (h0 : 0 < M) (h : ∀ x ∈ l, x < M) (k : Nat) : l.getD k 0 < M := by
  rw [List.getD_eq_getElem?_getD]
  rcases he : l[k]? with _ | x
  · exact h0
  · exact h x (List.mem_of_getElem? he)
theorem Wd_of {n : Nat} {l : List Nat} (hl : l.length = n) (h : ∀ x ∈ l, x < 4294967296) : Wd n l := ⟨hl, getD_lt_of (by decide) h⟩
def Ks : List Nat := [1116352408, 1899447441, 3049323471, 3921009573, 961987163, 1508970993, 2453635748, 2870763221, 3624381080, 310598401, 607225278, 1426881987, 1925078388, 2162078206, 2614888103, 3248222580, 3835390401, 4022224774, 264347078, 604807628, 770255983, 1249150122, 1555081692, 1996064986, 2554220882, 2821834349, 2952996808, 3210313671, 3336571891, 3584528711, 113926993, 338241895, 666307205, 773529912, 1294757372, 1396182291, 1695183700, 1986661051, 2177026350, 2456956037, 2730485921, 2820302411, 3259730800, 3345764771, 3516065817, 3600352804, 4094571909, 275423344, 430227734, 506948616, 659060556, 883997877, 958139571, 1322822218, 1537002063, 1747873779, 1955562222, 2024104815, 2227730452, 2361852424, 2428436474, 2756734187, 3204031479, 3329325298]
def Is : List Nat := [1779033703, 3144134277, 1013904242, 2773480762, 1359893119, 2600822924, 528734635, 1541459225]
theorem Ks_wd : Wd 64 Ks := Wd_of rfl (by decide)
theorem Is_wd : Wd 8 Is := Wd_of rfl (by decide)

section
variable (H : AHeap)
theorem AC_constants : AC A H.length F_sha_constants [] H (fun v H' => v = .agg (W32 Ks)) := by
  refine AC_enter t_sha_constants ?_; simp only [c_sha_constants, enterA, List.replicate, List.length_cons, List.length_nil, Nat.reduceAdd, Nat.reduceSub, List.cons_append, List.nil_append]
  have o2 : hown (H ++ [Blk.own (rep 64 (.int .u32 0))]) H.length = some (rep 64 (.int .u32 0)) := hown_last
  obtain ⟨H5, s5, o5, c5, l5⟩ := storeN_ex (n := 64) o2 (Nat.le_refl _) rep_len (W32 Ks) rfl
  have r5 : readN H5 H.length 0 64 = some (W32 Ks) := readN_all (hcells_own o5)
  have s5' := s5
  simp only [W32, Ks, List.map_cons, List.map_nil, rep, List.replicate, Int.cast_ofNat_Int] at s5'
  (repeat (first | with_reducible (first | refine thenQ_n ?_ | refine blockQ_n ?_ | refine thenQ_e ?_ | refine thenQ_r ?_ | refine blockQ_r ?_ | refine blockQ_s ?_ | refine blockQ_o rfl ?_) | refine AW_skip ?_ | refine AW_seq ?_ | refine AW_ops ?_ | refine AW_blockS ?_ | refine AW_blockR ?_ | refine AW_blockD ?_ | refine AW_blockC ?_ | refine AO_nil ?_ | refine AW_draw ?_ | refine AW_draw3 ?_ | refine AW_blockD3 ?_ | (refine AW_drawA ?_; simp only [atBlk, Sm]) | refine AHd_nil ?_ | with_reducible (first | refine AP_at ?_ | refine AHP_at ?_) | (with_reducible (first | apply AO_any | apply AHd_any | apply AP_go | apply AHP_go); focus (simp only [Sm, wantedA, execA, stepA, List.getElem?_cons_zero, List.getElem?_cons_succ, if_true, if_false, binA, binInt, unA, eqA, Option.map, eq_self, reduceCtorEq, ite_true, ite_false, fitsAll, CK.fits, fillA, AV.cells, writeN, sliceCells, appendA, lenA, i64, loA, hiA, Nat.reduceAdd, Nat.reduceMul, Nat.reduceDiv, Nat.reduceSub, Nat.reduceLeDiff, Nat.reduceLT, Int.reduceLE, Int.reduceLT, foldA, maxA, minA, Int.reduceBEq, Int.reduceBNe, Int.reduceGT, Int.reduceGE, Int.reduceEq, Int.reduceNe, Int.reduceToNat, AOp.stops, ↓want_eq, ↓exec_lenX, ↓exec_storeX, ↓exec_storeN, storeN_one, ↓exec_bsX, ↓exec_sliceX, ↓exec_copyX, ↓exec_appNil, ↓exec_carryX, Nat.sub_zero, rep_len, rep, List.replicate, s5']; with_reducible first | exact EqP.at_ | exact EqP.cont | exact EqP.hcont | exact EqP.gate | exact EqP.hgate)) | (refine AW_ift ?_ ?_; focus (simp only [Sm]; done)) | (refine AW_iff ?_ ?_; focus (simp only [Sm]; done))))
  exact AW_ret ⟨_, by simp only [outA, resA, ressA, AV.tv, Option.map_some, Sm, wantedA, execA, stepA, List.getElem?_cons_zero, List.getElem?_cons_succ, if_true, if_false, binA, binInt, unA, eqA, Option.map, eq_self, reduceCtorEq, ite_true, ite_false, fitsAll, CK.fits, fillA, AV.cells, writeN, sliceCells, appendA, lenA, i64, loA, hiA, Nat.reduceAdd, Nat.reduceMul, Nat.reduceDiv, Nat.reduceSub, Nat.reduceLeDiff, Nat.reduceLT, Int.reduceLE, Int.reduceLT, foldA, maxA, minA, r5] <;> with_reducible rfl, rfl⟩
theorem AC_Initial : AC A H.length F_sha_Initial [] H (fun v H' => v = .agg (W32 Is)) := by
  refine AC_enter t_sha_Initial ?_; simp only [c_sha_Initial, enterA, List.replicate, List.length_cons, List.length_nil, Nat.reduceAdd, Nat.reduceSub, List.cons_append, List.nil_append]
  have o2 : hown (H ++ [Blk.own (rep 8 (.int .u32 0))]) H.length = some (rep 8 (.int .u32 0)) := hown_last
  obtain ⟨H5, s5, o5, c5, l5⟩ := storeN_ex (n := 8) o2 (Nat.le_refl _) rep_len (W32 Is) rfl
  have r5 : readN H5 H.length 0 8 = some (W32 Is) := readN_all (hcells_own o5)
  have s5' := s5
  simp only [W32, Is, List.map_cons, List.map_nil, rep, List.replicate, Int.cast_ofNat_Int] at s5'
  (repeat (first | with_reducible (first | refine thenQ_n ?_ | refine blockQ_n ?_ | refine thenQ_e ?_ | refine thenQ_r ?_ | refine blockQ_r ?_ | refine blockQ_s ?_ | refine blockQ_o rfl ?_) | refine AW_skip ?_ | refine AW_seq ?_ | refine AW_ops ?_ | refine AW_blockS ?_ | refine AW_blockR ?_ | refine AW_blockD ?_ | refine AW_blockC ?_ | refine AO_nil ?_ | refine AW_draw ?_ | refine AW_draw3 ?_ | refine AW_blockD3 ?_ | (refine AW_drawA ?_; simp only [atBlk, Sm]) | refine AHd_nil ?_ | with_reducible (first | refine AP_at ?_ | refine AHP_at ?_) | (with_reducible (first | apply AO_any | apply AHd_any | apply AP_go | apply AHP_go); focus (simp only [Sm, wantedA, execA, stepA, List.getElem?_cons_zero, List.getElem?_cons_succ, if_true, if_false, binA, binInt, unA, eqA, Option.map, eq_self, reduceCtorEq, ite_true, ite_false, fitsAll, CK.fits, fillA, AV.cells, writeN, sliceCells, appendA, lenA, i64, loA, hiA, Nat.reduceAdd, Nat.reduceMul, Nat.reduceDiv, Nat.reduceSub, Nat.reduceLeDiff, Nat.reduceLT, Int.reduceLE, Int.reduceLT, foldA, maxA, minA, Int.reduceBEq, Int.reduceBNe, Int.reduceGT, Int.reduceGE, Int.reduceEq, Int.reduceNe, Int.reduceToNat, AOp.stops, ↓want_eq, ↓exec_lenX, ↓exec_storeX, ↓exec_storeN, storeN_one, ↓exec_bsX, ↓exec_sliceX, ↓exec_copyX, ↓exec_appNil, ↓exec_carryX, Nat.sub_zero, rep_len, rep, List.replicate, s5']; with_reducible first | exact EqP.at_ | exact EqP.cont | exact EqP.hcont | exact EqP.gate | exact EqP.hgate)) | (refine AW_ift ?_ ?_; focus (simp only [Sm]; done)) | (refine AW_iff ?_ ?_; focus (simp only [Sm]; done))))
  exact AW_ret ⟨_, by simp only [outA, resA, ressA, AV.tv, Option.map_some, Sm, wantedA, execA, stepA, List.getElem?_cons_zero, List.getElem?_cons_succ, if_true, if_false, binA, binInt, unA, eqA, Option.map, eq_self, reduceCtorEq, ite_true, ite_false, fitsAll, CK.fits, fillA, AV.cells, writeN, sliceCells, appendA, lenA, i64, loA, hiA, Nat.reduceAdd, Nat.reduceMul, Nat.reduceDiv, Nat.reduceSub, Nat.reduceLeDiff, Nat.reduceLT, Int.reduceLE, Int.reduceLT, foldA, maxA, minA, r5] <;> with_reducible rfl, rfl⟩
end

/-! a round -/
def sB1 (e : Nat) : Nat := rt 6 e ^^^ rt 11 e ^^^ rt 25 e
def sB0 (a : Nat) : Nat := rt 2 a ^^^ rt 13 a ^^^ rt 22 a
def chO (e f g : Nat) : Nat := (e &&& f) ^^^ ((4294967295 - e) &&& g)
def mjO (a b c : Nat) : Nat := (a &&& b) ^^^ (a &&& c) ^^^ (b &&& c)
def t1O (k w : Nat) (e f g h : Nat) : Nat := ad (ad (ad (ad h (sB1 e)) (chO e f g)) k) w
def t2O (a b c : Nat) : Nat := ad (sB0 a) (mjO a b c)
def rndO (k w : Nat) : List Nat → List Nat
  | [a, b, c, d, e, f, g, h] => [ad (t1O k w e f g h) (t2O a b c), a, b, c, ad d (t1O k w e f g h), e, f, g]
  | l => l
def rnds (ks ws s : List Nat) : Nat → List Nat
  | 0 => s
  | i + 1 => rndO (ks.getD i 0) (ws.getD i 0) (rnds ks ws s i)
def addW (s t : List Nat) : List Nat := List.zipWith ad s t
def compO (s bs : List Nat) : List Nat := addW s (rnds Ks (exW (wide (tk 4 (3 - ·) bs bs.length)) 48) s 64)
theorem Wd8 {s : List Nat} (h : Wd 8 s) : ∃ a b c d e f g i, s = [a, b, c, d, e, f, g, i] ∧ a < 4294967296 ∧ b < 4294967296 ∧ c < 4294967296 ∧ d < 4294967296 ∧ e < 4294967296 ∧ f < 4294967296 ∧ g < 4294967296 ∧ i < 4294967296 := by
  obtain ⟨hl, hk⟩ := h
  match s, hl with
  | [a, b, c, d, e, f, g, i], _ => exact ⟨a, b, c, d, e, f, g, i, rfl, hk 0, hk 1, hk 2, hk 3, hk 4, hk 5, hk 6, hk 7⟩
theorem Wd8_mk {a b c d e f g i : Nat} (h0 : a < 4294967296) (h1 : b < 4294967296) (h2 : c < 4294967296) (h3 : d < 4294967296) (h4 : e < 4294967296) (h5 : f < 4294967296) (h6 : g < 4294967296) (h7 : i < 4294967296) : Wd 8 [a, b, c, d, e, f, g, i] := by
  refine Wd_of rfl fun x hx => ?_
  simp only [List.mem_cons, List.not_mem_nil, or_false] at hx
  rcases hx with rfl | rfl | rfl | rfl | rfl | rfl | rfl | rfl <;> assumption
theorem rnd_wd {k w : Nat} {s : List Nat} (h : Wd 8 s) : Wd 8 (rndO k w s) := by
  obtain ⟨a, b, c, d, e, f, g, i, rfl, h0, h1, h2, h3, h4, h5, h6, h7⟩ := Wd8 h
  exact Wd8_mk (ad_lt _ _) h0 h1 h2 (ad_lt _ _) h4 h5 h6
theorem rnds_wd {ks ws s : List Nat} (h : Wd 8 s) : ∀ i, Wd 8 (rnds ks ws s i)
  | 0 => h
  | i + 1 => rnd_wd (rnds_wd h i)
theorem addW_wd {s t : List Nat} (hs : Wd 8 s) (ht : Wd 8 t) : Wd 8 (addW s t) := by
  obtain ⟨a, b, c, d, e, f, g, i, rfl, h0, h1, h2, h3, h4, h5, h6, h7⟩ := Wd8 hs
  obtain ⟨a', b', c', d', e', f', g', i', rfl, h0', h1', h2', h3', h4', h5', h6', h7'⟩ := Wd8 ht
  exact Wd8_mk (ad_lt _ _) (ad_lt _ _) (ad_lt _ _) (ad_lt _ _) (ad_lt _ _) (ad_lt _ _) (ad_lt _ _) (ad_lt _ _)
theorem compO_wd {s bs : List Nat} (h : Wd 8 s) : Wd 8 (compO s bs) := addW_wd h (rnds_wd h _)
end PK

/- SHA-256: Compress, walked. -/
namespace PK
open Go PAbs
set_option linter.unusedSimpArgs false
set_option linter.unusedVariables false
set_option maxRecDepth 100000
set_option maxHeartbeats 4000000


def scI (p2 p4 p6 p7 : Nat) (ks ws s : List Nat) (H0 : AHeap) (i : Nat) (fr : AFrame) (H : AHeap) : Prop := H = H0 ∧ ∃ a b c d e f g h : Nat, rnds ks ws s i = [a, b, c, d, e, f, g, h] ∧ (∃ s : Nat → AV, fr = [s 0, s 1, .c (.ptr p2 0), s 3, .c (.ptr p4 0), s 5, .c (.ptr p6 0), .c (.ptr p7 0), .c (.int .u32 (a : Int)), .c (.int .u32 (b : Int)), .c (.int .u32 (c : Int)), .c (.int .u32 (d : Int)), .c (.int .u32 (e : Int)), .c (.int .u32 (f : Int)), .c (.int .u32 (g : Int)), .c (.int .u32 (h : Int)), s 16, s 17, s 18, s 19, s 20, s 21, s 22, s 23, s 24, s 25, s 26, s 27, s 28, s 29, s 30, s 31, s 32, s 33, s 34, s 35, s 36, s 37, s 38, s 39, s 40, s 41, s 42, s 43, s 44, s 45, .c (.int .i64 (i : Int)), s 47, s 48, s 49, s 50, s 51, s 52, s 53, s 54, s 55, s 56, s 57, s 58, s 59, s 60, s 61, s 62, s 63, s 64, s 65, s 66, s 67, s 68, s 69, s 70, s 71, s 72, s 73, s 74, s 75, s 76, s 77, s 78, s 79, s 80, s 81, s 82, s 83, s 84, s 85, s 86, s 87, s 88, s 89, s 90, s 91, s 92, s 93, s 94, s 95, s 96, s 97, s 98, s 99, s 100, s 101, s 102, s 103, s 104, s 105, s 106, s 107, s 108, s 109, s 110, s 111, s 112, s 113, s 114, s 115, s 116, s 117, s 118, s 119, s 120, s 121, s 122, s 123, s 124, s 125, s 126, s 127, s 128, s 129, s 130, s 131])

def addTo (s us : List Nat) : Nat → List Nat
  | 0 => s
  | i + 1 => (addTo s us i).set i (ad ((addTo s us i).getD i 0) (us.getD i 0))
theorem addTo_all {s us : List Nat} (hs : Wd 8 s) (hu : Wd 8 us) : addTo s us 8 = addW s us := by
  obtain ⟨a, b, c, d, e, f, g, i, rfl, _⟩ := Wd8 hs
  obtain ⟨a', b', c', d', e', f', g', i', rfl, _⟩ := Wd8 hu
  rfl
theorem addTo_wd {s us : List Nat} (hs : Wd 8 s) : ∀ i, Wd 8 (addTo s us i)
  | 0 => hs
  | i + 1 => (addTo_wd hs i).set (ad_lt _ _)
def sdI (p2 p4 : Nat) (s us : List Nat) (H0 : AHeap) (i : Nat) (fr : AFrame) (H : AHeap) : Prop := Chg (· = p2) H0 H ∧ hown H p2 = some (W32 (addTo s us i)) ∧ (∃ s : Nat → AV, fr = [s 0, s 1, .c (.ptr p2 0), s 3, .c (.ptr p4 0), s 5, s 6, s 7, s 8, s 9, s 10, s 11, s 12, s 13, s 14, s 15, s 16, s 17, s 18, s 19, s 20, s 21, s 22, s 23, s 24, s 25, s 26, s 27, s 28, s 29, s 30, s 31, s 32, s 33, s 34, s 35, s 36, s 37, s 38, s 39, s 40, s 41, s 42, s 43, s 44, s 45, s 46, s 47, s 48, s 49, s 50, s 51, s 52, s 53, s 54, s 55, s 56, s 57, s 58, s 59, s 60, s 61, s 62, s 63, s 64, s 65, s 66, s 67, s 68, s 69, s 70, s 71, s 72, s 73, s 74, s 75, s 76, s 77, s 78, s 79, s 80, s 81, s 82, s 83, s 84, s 85, s 86, s 87, s 88, s 89, s 90, s 91, s 92, s 93, s 94, s 95, s 96, s 97, s 98, s 99, s 100, s 101, s 102, s 103, s 104, s 105, s 106, s 107, s 108, s 109, s 110, s 111, s 112, s 113, s 114, s 115, s 116, s 117, s 118, .agg (W32 us), .c (.int .i64 (i : Int)), s 121, s 122, s 123, s 124, s 125, s 126, s 127, s 128, s 129, s 130, s 131])
theorem W32_of8 {a b c d e f g h : Nat} : [Cell.int .u32 (a : Int), .int .u32 (b : Int), .int .u32 (c : Int), .int .u32 (d : Int), .int .u32 (e : Int), .int .u32 (f : Int), .int .u32 (g : Int), .int .u32 (h : Int)] = W32 [a, b, c, d, e, f, g, h] := rfl

theorem AC_Compress (H : AHeap) (y : Cell) (s bs : List Nat) (hs : Wd 8 s) (hy : Rd H y 1 (W8 bs)) (hl : bs.length = 64) (hb : ∀ k, bs.getD k 0 < 256) (hws : Wd 16 (tk 4 (3 - ·) bs bs.length)) :
    AC A H.length F_sha_Compress [.agg (W32 s), .c y] H (fun v H' => v = .tup [.agg (W32 (addW s (rnds Ks (exW (wide (tk 4 (3 - ·) bs bs.length)) 48) s 64))), .c (.int .i64 0)]) := by
  have yl : (W8 bs).length = bs.length := W8_length
  have e : (((bs.length : Nat) : Int) != 64) = false := by rw [hl]; rfl
  refine AC_enter t_sha_Compress ?_; simp only [c_sha_Compress, enterA, List.replicate, List.length_cons, List.length_nil, Nat.reduceAdd, Nat.reduceSub, List.cons_append, List.nil_append]
  (repeat (first | with_reducible (first | refine thenQ_n ?_ | refine blockQ_n ?_ | refine thenQ_e ?_ | refine thenQ_r ?_ | refine blockQ_r ?_ | refine blockQ_s ?_ | refine blockQ_o rfl ?_) | refine AW_skip ?_ | refine AW_seq ?_ | refine AW_ops ?_ | refine AW_blockS ?_ | refine AW_blockR ?_ | refine AW_blockD ?_ | refine AW_blockC ?_ | refine AO_nil ?_ | refine AW_draw ?_ | refine AW_draw3 ?_ | refine AW_blockD3 ?_ | (refine AW_drawA ?_; simp only [atBlk, Sm]) | refine AHd_nil ?_ | with_reducible (first | refine AP_at ?_ | refine AHP_at ?_) | (with_reducible (first | apply AO_any | apply AHd_any | apply AP_go | apply AHP_go); focus (simp only [Sm, wantedA, execA, stepA, List.getElem?_cons_zero, List.getElem?_cons_succ, if_true, if_false, binA, binInt, unA, eqA, Option.map, eq_self, reduceCtorEq, ite_true, ite_false, fitsAll, CK.fits, fillA, AV.cells, writeN, sliceCells, appendA, lenA, i64, loA, hiA, Nat.reduceAdd, Nat.reduceMul, Nat.reduceDiv, Nat.reduceSub, Nat.reduceLeDiff, Nat.reduceLT, Int.reduceLE, Int.reduceLT, foldA, maxA, minA, Int.reduceBEq, Int.reduceBNe, Int.reduceGT, Int.reduceGE, Int.reduceEq, Int.reduceNe, Int.reduceToNat, AOp.stops, ↓want_eq, ↓exec_lenX, ↓exec_storeX, ↓exec_storeN, storeN_one, ↓exec_bsX, ↓exec_sliceX, ↓exec_copyX, ↓exec_appNil, ↓exec_carryX, Nat.sub_zero, rep_len]; with_reducible first | exact EqP.at_ | exact EqP.cont | exact EqP.hcont | exact EqP.gate | exact EqP.hgate)) | (refine AW_ift ?_ ?_; focus (simp only [Sm]; done)) | (refine AW_iff ?_ ?_; focus (simp only [Sm]; done))))
  have o2 : hown (H ++ [Blk.own (W32 s)] ++ [Blk.own (rep 8 (.int .u32 0))]) H.length = some (W32 s) := hown_app hown_last
  have o4 : hown (H ++ [Blk.own (W32 s)] ++ [Blk.own (rep 8 (.int .u32 0))]) (H.length + 1) = some (rep 8 (.int .u32 0)) := by
    have := hown_last (H := H ++ [Blk.own (W32 s)]) (cs := rep 8 (.int .u32 0)); simpa using this
  have hy1 : Rd (H ++ [Blk.own (W32 s)] ++ [Blk.own (rep 8 (.int .u32 0))]) y 1 (W8 bs) := by rw [List.append_assoc]; exact hy.kept (Kept.push _ _ _)
  have l1 : (H ++ [Blk.own (W32 s)] ++ [Blk.own (rep 8 (.int .u32 0))]).length = H.length + 2 := by simp
  have ly := hy1.len bs.length (by rw [yl, Nat.mul_one]) (by decide)
  generalize H ++ [Blk.own (W32 s)] ++ [Blk.own (rep 8 (.int .u32 0))] = H1 at *
  (repeat (first | with_reducible (first | refine thenQ_n ?_ | refine blockQ_n ?_ | refine thenQ_e ?_ | refine thenQ_r ?_ | refine blockQ_r ?_ | refine blockQ_s ?_ | refine blockQ_o rfl ?_) | refine AW_skip ?_ | refine AW_seq ?_ | refine AW_ops ?_ | refine AW_blockS ?_ | refine AW_blockR ?_ | refine AW_blockD ?_ | refine AW_blockC ?_ | refine AO_nil ?_ | refine AW_draw ?_ | refine AW_draw3 ?_ | refine AW_blockD3 ?_ | (refine AW_drawA ?_; simp only [atBlk, Sm]) | refine AHd_nil ?_ | with_reducible (first | refine AP_at ?_ | refine AHP_at ?_) | (with_reducible (first | apply AO_any | apply AHd_any | apply AP_go | apply AHP_go); focus (simp only [Sm, wantedA, execA, stepA, List.getElem?_cons_zero, List.getElem?_cons_succ, if_true, if_false, binA, binInt, unA, eqA, Option.map, eq_self, reduceCtorEq, ite_true, ite_false, fitsAll, CK.fits, fillA, AV.cells, writeN, sliceCells, appendA, lenA, i64, loA, hiA, Nat.reduceAdd, Nat.reduceMul, Nat.reduceDiv, Nat.reduceSub, Nat.reduceLeDiff, Nat.reduceLT, Int.reduceLE, Int.reduceLT, foldA, maxA, minA, Int.reduceBEq, Int.reduceBNe, Int.reduceGT, Int.reduceGE, Int.reduceEq, Int.reduceNe, Int.reduceToNat, AOp.stops, ↓want_eq, ↓exec_lenX, ↓exec_storeX, ↓exec_storeN, storeN_one, ↓exec_bsX, ↓exec_sliceX, ↓exec_copyX, ↓exec_appNil, ↓exec_carryX, Nat.sub_zero, rep_len, ly, e]; with_reducible first | exact EqP.at_ | exact EqP.cont | exact EqP.hcont | exact EqP.gate | exact EqP.hgate)) | (refine AW_ift ?_ ?_; focus (simp only [Sm]; done)) | (refine AW_iff ?_ ?_; focus (simp only [Sm]; done))))
  refine AO_call rfl (((AC_spread H1 y bs hy1 hl hb hws).kept (Nat.le_refl _)).floor (by omega)) ?_
  rintro _ H2 ⟨rfl, k2⟩
  refine AO_call rfl (((AC_constants H2).kept (Nat.le_refl _)).floor (by have := k2.1; omega)) ?_
  rintro _ H3 ⟨rfl, k3⟩
  have hWe := hws.wide.ex 48
  generalize exW (wide (tk 4 (3 - ·) bs bs.length)) 48 = ws at *
  have hK := Ks_wd
  generalize Ks = ks at *
  have o23 : hown H3 H.length = some (W32 s) := by rw [k3.hown (by have := k2.1; omega) (by have := k2.1; omega), k2.hown (by omega) (by omega)]; exact o2
  have o43 : hown H3 (H.length + 1) = some (rep 8 (.int .u32 0)) := by rw [k3.hown (by have := k2.1; omega) (by have := k2.1; omega), k2.hown (by omega) (by omega)]; exact o4
  have l3 : H.length + 2 ≤ H3.length := by have := k2.1; have := k3.1; omega
  obtain ⟨H4, hH4, q2, q4, q6, q7, l4⟩ : ∃ H4, H4 = H3 ++ [Blk.own (rep 64 (.int .u32 0))] ++ [Blk.own (rep 64 (.int .u32 0))] ∧ hown H4 H.length = some (W32 s) ∧ hown H4 (H.length + 1) = some (rep 8 (.int .u32 0)) ∧ hown H4 H3.length = some (rep 64 (.int .u32 0)) ∧ hown H4 (H3.length + 1) = some (rep 64 (.int .u32 0)) ∧ H4.length = H3.length + 2 := by
    refine ⟨_, rfl, hown_app (hown_app o23), hown_app (hown_app o43), hown_app hown_last, ?_, by simp⟩
    have := hown_last (H := H3 ++ [Blk.own (rep 64 (.int .u32 0))]) (cs := rep 64 (.int .u32 0)); simpa using this
  obtain ⟨H5, s5, u6, c5, l5⟩ := storeN_ex (n := 64) q6 (by omega : H.length ≤ H3.length) rep_len (W32 ws) hWe.len
  have u7 := c5.hown (by omega : ¬ H3.length + 1 = H3.length) q7
  obtain ⟨H6, s6, v7, c6, l6⟩ := storeN_ex (n := 64) u7 (by omega : H.length ≤ H3.length + 1) rep_len (W32 ks) hK.len
  have v6 := c6.hown (by omega : ¬ H3.length = H3.length + 1) u6
  have v2 := c6.hown (by omega : ¬ H.length = H3.length + 1) (c5.hown (by omega : ¬ H.length = H3.length) q2)
  have v4 := c6.hown (by omega : ¬ H.length + 1 = H3.length + 1) (c5.hown (by omega : ¬ H.length + 1 = H3.length) q4)
  obtain ⟨a, b, c, d, e, f, g, h, hse, b0, b1, b2, b3, b4, b5, b6, b7⟩ := Wd8 hs
  have g0 : (W32 s)[0]? = some (.int .u32 (a : Int)) := by rw [hse]; rfl
  have g1 : (W32 s)[1]? = some (.int .u32 (b : Int)) := by rw [hse]; rfl
  have g2 : (W32 s)[2]? = some (.int .u32 (c : Int)) := by rw [hse]; rfl
  have g3 : (W32 s)[3]? = some (.int .u32 (d : Int)) := by rw [hse]; rfl
  have g4 : (W32 s)[4]? = some (.int .u32 (e : Int)) := by rw [hse]; rfl
  have g5 : (W32 s)[5]? = some (.int .u32 (f : Int)) := by rw [hse]; rfl
  have g6 : (W32 s)[6]? = some (.int .u32 (g : Int)) := by rw [hse]; rfl
  have g7 : (W32 s)[7]? = some (.int .u32 (h : Int)) := by rw [hse]; rfl
  have hc2 := hcells_own v2
  have hc6 := hcells_own v6
  have hc7 := hcells_own v7
  (repeat (first | with_reducible (first | refine thenQ_n ?_ | refine blockQ_n ?_ | refine thenQ_e ?_ | refine thenQ_r ?_ | refine blockQ_r ?_ | refine blockQ_s ?_ | refine blockQ_o rfl ?_) | refine AW_skip ?_ | refine AW_seq ?_ | refine AW_ops ?_ | refine AW_blockS ?_ | refine AW_blockR ?_ | refine AW_blockD ?_ | refine AW_blockC ?_ | refine AO_nil ?_ | refine AW_draw ?_ | refine AW_draw3 ?_ | refine AW_blockD3 ?_ | (refine AW_drawA ?_; simp only [atBlk, Sm]) | refine AHd_nil ?_ | with_reducible (first | refine AP_at ?_ | refine AHP_at ?_) | (with_reducible (first | apply AO_any | apply AHd_any | apply AP_go | apply AHP_go); focus (simp only [Sm, wantedA, execA, stepA, List.getElem?_cons_zero, List.getElem?_cons_succ, if_true, if_false, binA, binInt, unA, eqA, Option.map, eq_self, reduceCtorEq, ite_true, ite_false, fitsAll, CK.fits, fillA, AV.cells, writeN, sliceCells, appendA, lenA, i64, loA, hiA, Nat.reduceAdd, Nat.reduceMul, Nat.reduceDiv, Nat.reduceSub, Nat.reduceLeDiff, Nat.reduceLT, Int.reduceLE, Int.reduceLT, foldA, maxA, minA, Int.reduceBEq, Int.reduceBNe, Int.reduceGT, Int.reduceGE, Int.reduceEq, Int.reduceNe, Int.reduceToNat, AOp.stops, ↓want_eq, ↓exec_lenX, ↓exec_storeX, ↓exec_storeN, storeN_one, ↓exec_bsX, ↓exec_sliceX, ↓exec_copyX, ↓exec_appNil, ↓exec_carryX, Nat.sub_zero, rep_len, s5, s6, hc2, g0, g1, g2, g3, g4, g5, g6, g7, ← hH4]; with_reducible first | exact EqP.at_ | exact EqP.cont | exact EqP.hcont | exact EqP.gate | exact EqP.hgate)) | (refine AW_ift ?_ ?_; focus (simp only [Sm]; done)) | (refine AW_iff ?_ ?_; focus (simp only [Sm]; done))))
  refine AW_mid (fun x fr H' => x = .normal ∧ scI H.length (H.length + 1) H3.length (H3.length + 1) ks ws s H6 64 fr H') ?_ ?_
  · refine AW_block (AW_up (scI H.length (H.length + 1) H3.length (H3.length + 1) ks ws s H6) 64 ⟨rfl, a, b, c, d, e, f, g, h, hse, stale _ _ rfl⟩ ?_)
    clear hse b0 b1 b2 b3 b4 b5 b6 b7 g0 g1 g2 g3 g4 g5 g6 g7
    rintro i fr H7 hi ⟨rfl, a, b, c, d, e, f, g, h, hse, st, rfl⟩
    obtain ⟨_, _, _, _, _, _, _, _, h', b0, b1, b2, b3, b4, b5, b6, b7⟩ := Wd8 (rnds_wd (ks := ks) (ws := ws) hs i)
    rw [hse] at h'; simp only [List.cons.injEq, and_true] at h'; obtain ⟨rfl, rfl, rfl, rfl, rfl, rfl, rfl, rfl⟩ := h'
    have hsucc : rnds ks ws s (i + 1) = rndO (ks.getD i 0) (ws.getD i 0) (rnds ks ws s i) := rfl
    rw [hse] at hsucc
    (repeat (first | with_reducible (first | refine thenQ_n ?_ | refine blockQ_n ?_ | refine thenQ_e ?_ | refine thenQ_r ?_ | refine blockQ_r ?_ | refine blockQ_s ?_ | refine blockQ_o rfl ?_) | refine AW_skip ?_ | refine AW_seq ?_ | refine AW_ops ?_ | refine AW_blockS ?_ | refine AW_blockR ?_ | refine AW_blockD ?_ | refine AW_blockC ?_ | refine AO_nil ?_ | refine AW_draw ?_ | refine AW_draw3 ?_ | refine AW_blockD3 ?_ | (refine AW_drawA ?_; simp only [atBlk, Sm]) | refine AHd_nil ?_ | with_reducible (first | refine AP_at ?_ | refine AHP_at ?_) | (with_reducible (first | apply AO_any | apply AHd_any | apply AP_go | apply AHP_go); focus (simp only [Sm, wantedA, execA, stepA, List.getElem?_cons_zero, List.getElem?_cons_succ, if_true, if_false, binA, binInt, unA, eqA, Option.map, eq_self, reduceCtorEq, ite_true, ite_false, fitsAll, CK.fits, fillA, AV.cells, writeN, sliceCells, appendA, lenA, i64, loA, hiA, Nat.reduceAdd, Nat.reduceMul, Nat.reduceDiv, Nat.reduceSub, Nat.reduceLeDiff, Nat.reduceLT, Int.reduceLE, Int.reduceLT, foldA, maxA, minA, Int.reduceBEq, Int.reduceBNe, Int.reduceGT, Int.reduceGE, Int.reduceEq, Int.reduceNe, Int.reduceToNat, AOp.stops, ↓want_eq, ↓exec_lenX, ↓exec_storeX, ↓exec_storeN, storeN_one, ↓exec_bsX, ↓exec_sliceX, ↓exec_copyX, ↓exec_appNil, ↓exec_carryX, Nat.sub_zero, rep_len]; with_reducible first | exact EqP.at_ | exact EqP.cont | exact EqP.hcont | exact EqP.gate | exact EqP.hgate)) | (refine AW_ift ?_ ?_; focus (simp only [Sm]; done)) | (refine AW_iff ?_ ?_; focus (simp only [Sm]; done))))
    refine AW_cond rfl ?_ ?_ <;> intro ht
    · have ht : (i : Int) < 64 := of_decide_eq_true ht
      have hi2 : i < 64 := by omega
      have gk := hK.get (i := i) hi2
      have gw := hWe.get (i := i) hi2
      have kk := hK.2 i
      have kw := hWe.2 i
      generalize ks.getD i 0 = kc at *
      generalize ws.getD i 0 = wc at *
      have r6 := rt_lt (n := 6) (by omega) b4
      have r11 := rt_lt (n := 11) (by omega) b4
      have r25 := rt_lt (n := 25) (by omega) b4
      have r2 := rt_lt (n := 2) (by omega) b0
      have r13 := rt_lt (n := 13) (by omega) b0
      have r22 := rt_lt (n := 22) (by omega) b0
      have x1 := xo32 r6 r11
      have x2 : bitsA .xor .u32 ((rt 6 e ^^^ rt 11 e : Nat) : Int) ((rt 25 e : Nat) : Int) = ((sB1 e : Nat) : Int) := xo32 (xo_lt r6 r11) r25
      have x3 := xo32 r2 r13
      have x4 : bitsA .xor .u32 ((rt 2 a ^^^ rt 13 a : Nat) : Int) ((rt 22 a : Nat) : Int) = ((sB0 a : Nat) : Int) := xo32 (xo_lt r2 r13) r22
      have y1 := an32 b4 b5
      have yn := not32 b4
      have nt : (if IntKind.u32.signed = true then (-1 : Int) else IntKind.u32.max) = 4294967295 := by decide
      have y2 := an32 (a := 4294967295 - e) (b := g) (by omega) b6
      have y3 : bitsA .xor .u32 ((e &&& f : Nat) : Int) (((4294967295 - e) &&& g : Nat) : Int) = ((chO e f g : Nat) : Int) := xo32 (an_lt b4) (an_lt (by omega))
      have z1 := an32 b0 b1
      have z2 := an32 b0 b2
      have z3 := an32 b1 b2
      have z4 := xo32 (an_lt (b := b) b0) (an_lt (b := c) b0)
      have z5 : bitsA .xor .u32 (((a &&& b) ^^^ (a &&& c) : Nat) : Int) ((b &&& c : Nat) : Int) = ((mjO a b c : Nat) : Int) := xo32 (xo_lt (an_lt b0) (an_lt b0)) (an_lt b1)
      have esc : IntKind.i64.wrap ((i : Int) + 1) = ((i + 1 : Nat) : Int) := by rw [i64_of (by omega) (by omega)]; omega
      (repeat (first | with_reducible (first | refine thenQ_n ?_ | refine blockQ_n ?_ | refine thenQ_e ?_ | refine thenQ_r ?_ | refine blockQ_r ?_ | refine blockQ_s ?_ | refine blockQ_o rfl ?_) | refine AW_skip ?_ | refine AW_seq ?_ | refine AW_ops ?_ | refine AW_blockS ?_ | refine AW_blockR ?_ | refine AW_blockD ?_ | refine AW_blockC ?_ | refine AO_nil ?_ | refine AW_draw ?_ | refine AW_draw3 ?_ | refine AW_blockD3 ?_ | (refine AW_drawA ?_; simp only [atBlk, Sm]) | refine AHd_nil ?_ | with_reducible (first | refine AP_at ?_ | refine AHP_at ?_) | (with_reducible (first | apply AO_any | apply AHd_any | apply AP_go | apply AHP_go); focus (simp only [Sm, wantedA, execA, stepA, List.getElem?_cons_zero, List.getElem?_cons_succ, if_true, if_false, binA, binInt, unA, eqA, Option.map, eq_self, reduceCtorEq, ite_true, ite_false, fitsAll, CK.fits, fillA, AV.cells, writeN, sliceCells, appendA, lenA, i64, loA, hiA, Nat.reduceAdd, Nat.reduceMul, Nat.reduceDiv, Nat.reduceSub, Nat.reduceLeDiff, Nat.reduceLT, Int.reduceLE, Int.reduceLT, foldA, maxA, minA, Int.reduceBEq, Int.reduceBNe, Int.reduceGT, Int.reduceGE, Int.reduceEq, Int.reduceNe, Int.reduceToNat, AOp.stops, ↓want_eq, ↓exec_lenX, ↓exec_storeX, ↓exec_storeN, storeN_one, ↓exec_bsX, ↓exec_sliceX, ↓exec_copyX, ↓exec_appNil, ↓exec_carryX, Nat.sub_zero, rep_len]; with_reducible first | exact EqP.at_ | exact EqP.cont | exact EqP.hcont | exact EqP.gate | exact EqP.hgate)) | (refine AW_ift ?_ ?_; focus (simp only [Sm]; done)) | (refine AW_iff ?_ ?_; focus (simp only [Sm]; done))))
      refine AO_call rfl ((AC_R32 H7 6 e (by omega) b4).floor (by omega)) ?_
      rintro _ _ ⟨rfl, rfl⟩
      (repeat (first | with_reducible (first | refine thenQ_n ?_ | refine blockQ_n ?_ | refine thenQ_e ?_ | refine thenQ_r ?_ | refine blockQ_r ?_ | refine blockQ_s ?_ | refine blockQ_o rfl ?_) | refine AW_skip ?_ | refine AW_seq ?_ | refine AW_ops ?_ | refine AW_blockS ?_ | refine AW_blockR ?_ | refine AW_blockD ?_ | refine AW_blockC ?_ | refine AO_nil ?_ | refine AW_draw ?_ | refine AW_draw3 ?_ | refine AW_blockD3 ?_ | (refine AW_drawA ?_; simp only [atBlk, Sm]) | refine AHd_nil ?_ | with_reducible (first | refine AP_at ?_ | refine AHP_at ?_) | (with_reducible (first | apply AO_any | apply AHd_any | apply AP_go | apply AHP_go); focus (simp only [Sm, wantedA, execA, stepA, List.getElem?_cons_zero, List.getElem?_cons_succ, if_true, if_false, binA, binInt, unA, eqA, Option.map, eq_self, reduceCtorEq, ite_true, ite_false, fitsAll, CK.fits, fillA, AV.cells, writeN, sliceCells, appendA, lenA, i64, loA, hiA, Nat.reduceAdd, Nat.reduceMul, Nat.reduceDiv, Nat.reduceSub, Nat.reduceLeDiff, Nat.reduceLT, Int.reduceLE, Int.reduceLT, foldA, maxA, minA, Int.reduceBEq, Int.reduceBNe, Int.reduceGT, Int.reduceGE, Int.reduceEq, Int.reduceNe, Int.reduceToNat, AOp.stops, ↓want_eq, ↓exec_lenX, ↓exec_storeX, ↓exec_storeN, storeN_one, ↓exec_bsX, ↓exec_sliceX, ↓exec_copyX, ↓exec_appNil, ↓exec_carryX, Nat.sub_zero, rep_len]; with_reducible first | exact EqP.at_ | exact EqP.cont | exact EqP.hcont | exact EqP.gate | exact EqP.hgate)) | (refine AW_ift ?_ ?_; focus (simp only [Sm]; done)) | (refine AW_iff ?_ ?_; focus (simp only [Sm]; done))))
      refine AO_call rfl ((AC_R32 H7 11 e (by omega) b4).floor (by omega)) ?_
      rintro _ _ ⟨rfl, rfl⟩
      (repeat (first | with_reducible (first | refine thenQ_n ?_ | refine blockQ_n ?_ | refine thenQ_e ?_ | refine thenQ_r ?_ | refine blockQ_r ?_ | refine blockQ_s ?_ | refine blockQ_o rfl ?_) | refine AW_skip ?_ | refine AW_seq ?_ | refine AW_ops ?_ | refine AW_blockS ?_ | refine AW_blockR ?_ | refine AW_blockD ?_ | refine AW_blockC ?_ | refine AO_nil ?_ | refine AW_draw ?_ | refine AW_draw3 ?_ | refine AW_blockD3 ?_ | (refine AW_drawA ?_; simp only [atBlk, Sm]) | refine AHd_nil ?_ | with_reducible (first | refine AP_at ?_ | refine AHP_at ?_) | (with_reducible (first | apply AO_any | apply AHd_any | apply AP_go | apply AHP_go); focus (simp only [Sm, wantedA, execA, stepA, List.getElem?_cons_zero, List.getElem?_cons_succ, if_true, if_false, binA, binInt, unA, eqA, Option.map, eq_self, reduceCtorEq, ite_true, ite_false, fitsAll, CK.fits, fillA, AV.cells, writeN, sliceCells, appendA, lenA, i64, loA, hiA, Nat.reduceAdd, Nat.reduceMul, Nat.reduceDiv, Nat.reduceSub, Nat.reduceLeDiff, Nat.reduceLT, Int.reduceLE, Int.reduceLT, foldA, maxA, minA, Int.reduceBEq, Int.reduceBNe, Int.reduceGT, Int.reduceGE, Int.reduceEq, Int.reduceNe, Int.reduceToNat, AOp.stops, ↓want_eq, ↓exec_lenX, ↓exec_storeX, ↓exec_storeN, storeN_one, ↓exec_bsX, ↓exec_sliceX, ↓exec_copyX, ↓exec_appNil, ↓exec_carryX, Nat.sub_zero, rep_len, x1]; with_reducible first | exact EqP.at_ | exact EqP.cont | exact EqP.hcont | exact EqP.gate | exact EqP.hgate)) | (refine AW_ift ?_ ?_; focus (simp only [Sm]; done)) | (refine AW_iff ?_ ?_; focus (simp only [Sm]; done))))
      refine AO_call rfl ((AC_R32 H7 25 e (by omega) b4).floor (by omega)) ?_
      rintro _ _ ⟨rfl, rfl⟩
      (repeat (first | with_reducible (first | refine thenQ_n ?_ | refine blockQ_n ?_ | refine thenQ_e ?_ | refine thenQ_r ?_ | refine blockQ_r ?_ | refine blockQ_s ?_ | refine blockQ_o rfl ?_) | refine AW_skip ?_ | refine AW_seq ?_ | refine AW_ops ?_ | refine AW_blockS ?_ | refine AW_blockR ?_ | refine AW_blockD ?_ | refine AW_blockC ?_ | refine AO_nil ?_ | refine AW_draw ?_ | refine AW_draw3 ?_ | refine AW_blockD3 ?_ | (refine AW_drawA ?_; simp only [atBlk, Sm]) | refine AHd_nil ?_ | with_reducible (first | refine AP_at ?_ | refine AHP_at ?_) | (with_reducible (first | apply AO_any | apply AHd_any | apply AP_go | apply AHP_go); focus (simp only [Sm, wantedA, execA, stepA, List.getElem?_cons_zero, List.getElem?_cons_succ, if_true, if_false, binA, binInt, unA, eqA, Option.map, eq_self, reduceCtorEq, ite_true, ite_false, fitsAll, CK.fits, fillA, AV.cells, writeN, sliceCells, appendA, lenA, i64, loA, hiA, Nat.reduceAdd, Nat.reduceMul, Nat.reduceDiv, Nat.reduceSub, Nat.reduceLeDiff, Nat.reduceLT, Int.reduceLE, Int.reduceLT, foldA, maxA, minA, Int.reduceBEq, Int.reduceBNe, Int.reduceGT, Int.reduceGE, Int.reduceEq, Int.reduceNe, Int.reduceToNat, AOp.stops, ↓want_eq, ↓exec_lenX, ↓exec_storeX, ↓exec_storeN, storeN_one, ↓exec_bsX, ↓exec_sliceX, ↓exec_copyX, ↓exec_appNil, ↓exec_carryX, Nat.sub_zero, rep_len, x2, wrap_ad, y1, nt, yn, y2, y3, hc7, gk, ht, hc6, gw, Nat.zero_add]; with_reducible first | exact EqP.at_ | exact EqP.cont | exact EqP.hcont | exact EqP.gate | exact EqP.hgate)) | (refine AW_ift ?_ ?_; focus (simp only [Sm]; done)) | (refine AW_iff ?_ ?_; focus (simp only [Sm]; done))))
      refine AO_call rfl ((AC_R32 H7 2 a (by omega) b0).floor (by omega)) ?_
      rintro _ _ ⟨rfl, rfl⟩
      (repeat (first | with_reducible (first | refine thenQ_n ?_ | refine blockQ_n ?_ | refine thenQ_e ?_ | refine thenQ_r ?_ | refine blockQ_r ?_ | refine blockQ_s ?_ | refine blockQ_o rfl ?_) | refine AW_skip ?_ | refine AW_seq ?_ | refine AW_ops ?_ | refine AW_blockS ?_ | refine AW_blockR ?_ | refine AW_blockD ?_ | refine AW_blockC ?_ | refine AO_nil ?_ | refine AW_draw ?_ | refine AW_draw3 ?_ | refine AW_blockD3 ?_ | (refine AW_drawA ?_; simp only [atBlk, Sm]) | refine AHd_nil ?_ | with_reducible (first | refine AP_at ?_ | refine AHP_at ?_) | (with_reducible (first | apply AO_any | apply AHd_any | apply AP_go | apply AHP_go); focus (simp only [Sm, wantedA, execA, stepA, List.getElem?_cons_zero, List.getElem?_cons_succ, if_true, if_false, binA, binInt, unA, eqA, Option.map, eq_self, reduceCtorEq, ite_true, ite_false, fitsAll, CK.fits, fillA, AV.cells, writeN, sliceCells, appendA, lenA, i64, loA, hiA, Nat.reduceAdd, Nat.reduceMul, Nat.reduceDiv, Nat.reduceSub, Nat.reduceLeDiff, Nat.reduceLT, Int.reduceLE, Int.reduceLT, foldA, maxA, minA, Int.reduceBEq, Int.reduceBNe, Int.reduceGT, Int.reduceGE, Int.reduceEq, Int.reduceNe, Int.reduceToNat, AOp.stops, ↓want_eq, ↓exec_lenX, ↓exec_storeX, ↓exec_storeN, storeN_one, ↓exec_bsX, ↓exec_sliceX, ↓exec_copyX, ↓exec_appNil, ↓exec_carryX, Nat.sub_zero, rep_len]; with_reducible first | exact EqP.at_ | exact EqP.cont | exact EqP.hcont | exact EqP.gate | exact EqP.hgate)) | (refine AW_ift ?_ ?_; focus (simp only [Sm]; done)) | (refine AW_iff ?_ ?_; focus (simp only [Sm]; done))))
      refine AO_call rfl ((AC_R32 H7 13 a (by omega) b0).floor (by omega)) ?_
      rintro _ _ ⟨rfl, rfl⟩
      (repeat (first | with_reducible (first | refine thenQ_n ?_ | refine blockQ_n ?_ | refine thenQ_e ?_ | refine thenQ_r ?_ | refine blockQ_r ?_ | refine blockQ_s ?_ | refine blockQ_o rfl ?_) | refine AW_skip ?_ | refine AW_seq ?_ | refine AW_ops ?_ | refine AW_blockS ?_ | refine AW_blockR ?_ | refine AW_blockD ?_ | refine AW_blockC ?_ | refine AO_nil ?_ | refine AW_draw ?_ | refine AW_draw3 ?_ | refine AW_blockD3 ?_ | (refine AW_drawA ?_; simp only [atBlk, Sm]) | refine AHd_nil ?_ | with_reducible (first | refine AP_at ?_ | refine AHP_at ?_) | (with_reducible (first | apply AO_any | apply AHd_any | apply AP_go | apply AHP_go); focus (simp only [Sm, wantedA, execA, stepA, List.getElem?_cons_zero, List.getElem?_cons_succ, if_true, if_false, binA, binInt, unA, eqA, Option.map, eq_self, reduceCtorEq, ite_true, ite_false, fitsAll, CK.fits, fillA, AV.cells, writeN, sliceCells, appendA, lenA, i64, loA, hiA, Nat.reduceAdd, Nat.reduceMul, Nat.reduceDiv, Nat.reduceSub, Nat.reduceLeDiff, Nat.reduceLT, Int.reduceLE, Int.reduceLT, foldA, maxA, minA, Int.reduceBEq, Int.reduceBNe, Int.reduceGT, Int.reduceGE, Int.reduceEq, Int.reduceNe, Int.reduceToNat, AOp.stops, ↓want_eq, ↓exec_lenX, ↓exec_storeX, ↓exec_storeN, storeN_one, ↓exec_bsX, ↓exec_sliceX, ↓exec_copyX, ↓exec_appNil, ↓exec_carryX, Nat.sub_zero, rep_len, x3]; with_reducible first | exact EqP.at_ | exact EqP.cont | exact EqP.hcont | exact EqP.gate | exact EqP.hgate)) | (refine AW_ift ?_ ?_; focus (simp only [Sm]; done)) | (refine AW_iff ?_ ?_; focus (simp only [Sm]; done))))
      refine AO_call rfl ((AC_R32 H7 22 a (by omega) b0).floor (by omega)) ?_
      rintro _ _ ⟨rfl, rfl⟩
      (repeat (first | with_reducible (first | refine thenQ_n ?_ | refine blockQ_n ?_ | refine thenQ_e ?_ | refine thenQ_r ?_ | refine blockQ_r ?_ | refine blockQ_s ?_ | refine blockQ_o rfl ?_) | refine AW_skip ?_ | refine AW_seq ?_ | refine AW_ops ?_ | refine AW_blockS ?_ | refine AW_blockR ?_ | refine AW_blockD ?_ | refine AW_blockC ?_ | refine AO_nil ?_ | refine AW_draw ?_ | refine AW_draw3 ?_ | refine AW_blockD3 ?_ | (refine AW_drawA ?_; simp only [atBlk, Sm]) | refine AHd_nil ?_ | with_reducible (first | refine AP_at ?_ | refine AHP_at ?_) | (with_reducible (first | apply AO_any | apply AHd_any | apply AP_go | apply AHP_go); focus (simp only [Sm, wantedA, execA, stepA, List.getElem?_cons_zero, List.getElem?_cons_succ, if_true, if_false, binA, binInt, unA, eqA, Option.map, eq_self, reduceCtorEq, ite_true, ite_false, fitsAll, CK.fits, fillA, AV.cells, writeN, sliceCells, appendA, lenA, i64, loA, hiA, Nat.reduceAdd, Nat.reduceMul, Nat.reduceDiv, Nat.reduceSub, Nat.reduceLeDiff, Nat.reduceLT, Int.reduceLE, Int.reduceLT, foldA, maxA, minA, Int.reduceBEq, Int.reduceBNe, Int.reduceGT, Int.reduceGE, Int.reduceEq, Int.reduceNe, Int.reduceToNat, AOp.stops, ↓want_eq, ↓exec_lenX, ↓exec_storeX, ↓exec_storeN, storeN_one, ↓exec_bsX, ↓exec_sliceX, ↓exec_copyX, ↓exec_appNil, ↓exec_carryX, Nat.sub_zero, rep_len, x4, wrap_ad, z1, z2, z3, z4, z5, esc]; with_reducible first | exact EqP.at_ | exact EqP.cont | exact EqP.hcont | exact EqP.gate | exact EqP.hgate)) | (refine AW_ift ?_ ?_; focus (simp only [Sm]; done)) | (refine AW_iff ?_ ?_; focus (simp only [Sm]; done))))
      exact ⟨hi2, rfl, _, _, _, _, _, _, _, _, hsucc, stale _ _ rfl⟩
    · obtain rfl : i = 64 := by have : ¬ (i : Int) < 64 := of_decide_eq_false ht; omega
      exact AW_exit ⟨rfl, rfl, a, b, c, d, e, f, g, h, hse, stale _ _ rfl⟩
  clear hse b0 b1 b2 b3 b4 b5 b6 b7 g0 g1 g2 g3 g4 g5 g6 g7
  rintro x fr H7 ⟨rfl, rfl, a, b, c, d, e, f, g, h, hse, st, rfl⟩
  have hus := rnds_wd (ks := ks) (ws := ws) hs 64
  rw [hse] at hus ⊢
  have hW8 := W32_of8 (a := a) (b := b) (c := c) (d := d) (e := e) (f := f) (g := g) (h := h)
  (repeat (first | with_reducible (first | refine thenQ_n ?_ | refine blockQ_n ?_ | refine thenQ_e ?_ | refine thenQ_r ?_ | refine blockQ_r ?_ | refine blockQ_s ?_ | refine blockQ_o rfl ?_) | refine AW_skip ?_ | refine AW_seq ?_ | refine AW_ops ?_ | refine AW_blockS ?_ | refine AW_blockR ?_ | refine AW_blockD ?_ | refine AW_blockC ?_ | refine AO_nil ?_ | refine AW_draw ?_ | refine AW_draw3 ?_ | refine AW_blockD3 ?_ | (refine AW_drawA ?_; simp only [atBlk, Sm]) | refine AHd_nil ?_ | with_reducible (first | refine AP_at ?_ | refine AHP_at ?_) | (with_reducible (first | apply AO_any | apply AHd_any | apply AP_go | apply AHP_go); focus (simp only [Sm, wantedA, execA, stepA, List.getElem?_cons_zero, List.getElem?_cons_succ, if_true, if_false, binA, binInt, unA, eqA, Option.map, eq_self, reduceCtorEq, ite_true, ite_false, fitsAll, CK.fits, fillA, AV.cells, writeN, sliceCells, appendA, lenA, i64, loA, hiA, Nat.reduceAdd, Nat.reduceMul, Nat.reduceDiv, Nat.reduceSub, Nat.reduceLeDiff, Nat.reduceLT, Int.reduceLE, Int.reduceLT, foldA, maxA, minA, Int.reduceBEq, Int.reduceBNe, Int.reduceGT, Int.reduceGE, Int.reduceEq, Int.reduceNe, Int.reduceToNat, AOp.stops, ↓want_eq, ↓exec_lenX, ↓exec_storeX, ↓exec_storeN, storeN_one, ↓exec_bsX, ↓exec_sliceX, ↓exec_copyX, ↓exec_appNil, ↓exec_carryX, Nat.sub_zero, rep_len, rep, List.replicate, hW8]; with_reducible first | exact EqP.at_ | exact EqP.cont | exact EqP.hcont | exact EqP.gate | exact EqP.hgate)) | (refine AW_ift ?_ ?_; focus (simp only [Sm]; done)) | (refine AW_iff ?_ ?_; focus (simp only [Sm]; done))))
  refine AW_mid (fun x fr H' => x = .normal ∧ sdI H.length (H.length + 1) s [a, b, c, d, e, f, g, h] H7 8 fr H') ?_ ?_
  · refine AW_block (AW_up (sdI H.length (H.length + 1) s [a, b, c, d, e, f, g, h] H7) 8 ⟨Chg.refl _ _, v2, stale _ _ rfl⟩ ?_)
    generalize [a, b, c, d, e, f, g, h] = us at *
    clear hW8
    rintro i fr H8 hi ⟨c8, o8, st, rfl⟩
    have hS := addTo_wd (us := us) hs i
    have hsucc : addTo s us (i + 1) = (addTo s us i).set i (ad ((addTo s us i).getD i 0) (us.getD i 0)) := rfl
    generalize hu : addTo s us i = u at *
    (repeat (first | with_reducible (first | refine thenQ_n ?_ | refine blockQ_n ?_ | refine thenQ_e ?_ | refine thenQ_r ?_ | refine blockQ_r ?_ | refine blockQ_s ?_ | refine blockQ_o rfl ?_) | refine AW_skip ?_ | refine AW_seq ?_ | refine AW_ops ?_ | refine AW_blockS ?_ | refine AW_blockR ?_ | refine AW_blockD ?_ | refine AW_blockC ?_ | refine AO_nil ?_ | refine AW_draw ?_ | refine AW_draw3 ?_ | refine AW_blockD3 ?_ | (refine AW_drawA ?_; simp only [atBlk, Sm]) | refine AHd_nil ?_ | with_reducible (first | refine AP_at ?_ | refine AHP_at ?_) | (with_reducible (first | apply AO_any | apply AHd_any | apply AP_go | apply AHP_go); focus (simp only [Sm, wantedA, execA, stepA, List.getElem?_cons_zero, List.getElem?_cons_succ, if_true, if_false, binA, binInt, unA, eqA, Option.map, eq_self, reduceCtorEq, ite_true, ite_false, fitsAll, CK.fits, fillA, AV.cells, writeN, sliceCells, appendA, lenA, i64, loA, hiA, Nat.reduceAdd, Nat.reduceMul, Nat.reduceDiv, Nat.reduceSub, Nat.reduceLeDiff, Nat.reduceLT, Int.reduceLE, Int.reduceLT, foldA, maxA, minA, Int.reduceBEq, Int.reduceBNe, Int.reduceGT, Int.reduceGE, Int.reduceEq, Int.reduceNe, Int.reduceToNat, AOp.stops, ↓want_eq, ↓exec_lenX, ↓exec_storeX, ↓exec_storeN, storeN_one, ↓exec_bsX, ↓exec_sliceX, ↓exec_copyX, ↓exec_appNil, ↓exec_carryX, Nat.sub_zero, rep_len]; with_reducible first | exact EqP.at_ | exact EqP.cont | exact EqP.hcont | exact EqP.gate | exact EqP.hgate)) | (refine AW_ift ?_ ?_; focus (simp only [Sm]; done)) | (refine AW_iff ?_ ?_; focus (simp only [Sm]; done))))
    refine AW_cond rfl ?_ ?_ <;> intro ht
    · have ht : (i : Int) < 8 := of_decide_eq_true ht
      have hi2 : i < 8 := by omega
      have g1 := hS.get (i := i) hi2
      have g2 := hus.get (i := i) hi2
      generalize u.getD i 0 = ui at *
      generalize us.getD i 0 = vi at *
      have h8 := hcells_own o8
      have l8 := hown_lt o8
      have esc : IntKind.i64.wrap ((i : Int) + 1) = ((i + 1 : Nat) : Int) := by rw [i64_of (by omega) (by omega)]; omega
      (repeat (first | with_reducible (first | refine thenQ_n ?_ | refine blockQ_n ?_ | refine thenQ_e ?_ | refine thenQ_r ?_ | refine blockQ_r ?_ | refine blockQ_s ?_ | refine blockQ_o rfl ?_) | refine AW_skip ?_ | refine AW_seq ?_ | refine AW_ops ?_ | refine AW_blockS ?_ | refine AW_blockR ?_ | refine AW_blockD ?_ | refine AW_blockC ?_ | refine AO_nil ?_ | refine AW_draw ?_ | refine AW_draw3 ?_ | refine AW_blockD3 ?_ | (refine AW_drawA ?_; simp only [atBlk, Sm]) | refine AHd_nil ?_ | with_reducible (first | refine AP_at ?_ | refine AHP_at ?_) | (with_reducible (first | apply AO_any | apply AHd_any | apply AP_go | apply AHP_go); focus (simp only [Sm, wantedA, execA, stepA, List.getElem?_cons_zero, List.getElem?_cons_succ, if_true, if_false, binA, binInt, unA, eqA, Option.map, eq_self, reduceCtorEq, ite_true, ite_false, fitsAll, CK.fits, fillA, AV.cells, writeN, sliceCells, appendA, lenA, i64, loA, hiA, Nat.reduceAdd, Nat.reduceMul, Nat.reduceDiv, Nat.reduceSub, Nat.reduceLeDiff, Nat.reduceLT, Int.reduceLE, Int.reduceLT, foldA, maxA, minA, Int.reduceBEq, Int.reduceBNe, Int.reduceGT, Int.reduceGE, Int.reduceEq, Int.reduceNe, Int.reduceToNat, AOp.stops, ↓want_eq, ↓exec_lenX, ↓exec_storeX, ↓exec_storeN, storeN_one, ↓exec_bsX, ↓exec_sliceX, ↓exec_copyX, ↓exec_appNil, ↓exec_carryX, Nat.sub_zero, rep_len, g2, ht, hi2, h8, g1, Nat.zero_add, wrap_ad, storeX_own o8 (Nat.le_refl H.length) (by rw [hS.len]; exact hi2 : i < _), esc]; with_reducible first | exact EqP.at_ | exact EqP.cont | exact EqP.hcont | exact EqP.gate | exact EqP.hgate)) | (refine AW_ift ?_ ?_; focus (simp only [Sm]; done)) | (refine AW_iff ?_ ?_; focus (simp only [Sm]; done))))
      refine ⟨hi2, c8.trans (Chg.set (S := (· = H.length)) rfl) fun _ _ h => h, ?_, stale _ _ rfl⟩
      rw [hown_set l8, W32_put, hsucc]
    · obtain rfl : i = 8 := by have : ¬ (i : Int) < 8 := of_decide_eq_false ht; omega
      subst hu
      exact AW_exit ⟨rfl, c8, o8, stale _ _ rfl⟩
  have hall := addTo_all hs hus
  have hA := addW_wd hs hus
  generalize [a, b, c, d, e, f, g, h] = us at *
  rintro x fr H8 ⟨rfl, c8, o8, st, rfl⟩
  rw [hall] at o8
  have o84 := c8.hown (by omega : ¬ H.length + 1 = H.length) v4
  generalize addW s us = r at *
  have r8 : readN H8 H.length 0 8 = some (W32 r) := by have := readN_all (hcells_own o8); rw [hA.len] at this; exact this
  obtain ⟨H9, s9, o9, c9, l9⟩ := storeN_ex (n := 8) o84 (by omega : H.length ≤ H.length + 1) rep_len (W32 r) hA.len
  have r9 : readN H9 (H.length + 1) 0 8 = some (W32 r) := by have := readN_all (hcells_own o9); rw [hA.len] at this; exact this
  (repeat (first | with_reducible (first | refine thenQ_n ?_ | refine blockQ_n ?_ | refine thenQ_e ?_ | refine thenQ_r ?_ | refine blockQ_r ?_ | refine blockQ_s ?_ | refine blockQ_o rfl ?_) | refine AW_skip ?_ | refine AW_seq ?_ | refine AW_ops ?_ | refine AW_blockS ?_ | refine AW_blockR ?_ | refine AW_blockD ?_ | refine AW_blockC ?_ | refine AO_nil ?_ | refine AW_draw ?_ | refine AW_draw3 ?_ | refine AW_blockD3 ?_ | (refine AW_drawA ?_; simp only [atBlk, Sm]) | refine AHd_nil ?_ | with_reducible (first | refine AP_at ?_ | refine AHP_at ?_) | (with_reducible (first | apply AO_any | apply AHd_any | apply AP_go | apply AHP_go); focus (simp only [Sm, wantedA, execA, stepA, List.getElem?_cons_zero, List.getElem?_cons_succ, if_true, if_false, binA, binInt, unA, eqA, Option.map, eq_self, reduceCtorEq, ite_true, ite_false, fitsAll, CK.fits, fillA, AV.cells, writeN, sliceCells, appendA, lenA, i64, loA, hiA, Nat.reduceAdd, Nat.reduceMul, Nat.reduceDiv, Nat.reduceSub, Nat.reduceLeDiff, Nat.reduceLT, Int.reduceLE, Int.reduceLT, foldA, maxA, minA, Int.reduceBEq, Int.reduceBNe, Int.reduceGT, Int.reduceGE, Int.reduceEq, Int.reduceNe, Int.reduceToNat, AOp.stops, ↓want_eq, ↓exec_lenX, ↓exec_storeX, ↓exec_storeN, storeN_one, ↓exec_bsX, ↓exec_sliceX, ↓exec_copyX, ↓exec_appNil, ↓exec_carryX, Nat.sub_zero, rep_len, ↓r8, s9]; with_reducible first | exact EqP.at_ | exact EqP.cont | exact EqP.hcont | exact EqP.gate | exact EqP.hgate)) | (refine AW_ift ?_ ?_; focus (simp only [Sm]; done)) | (refine AW_iff ?_ ?_; focus (simp only [Sm]; done))))
  exact AW_ret ⟨_, by simp only [outA, resA, ressA, AV.tv, Option.map_some, Sm, wantedA, execA, stepA, List.getElem?_cons_zero, List.getElem?_cons_succ, if_true, if_false, binA, binInt, unA, eqA, Option.map, eq_self, reduceCtorEq, ite_true, ite_false, fitsAll, CK.fits, fillA, AV.cells, writeN, sliceCells, appendA, lenA, i64, loA, hiA, Nat.reduceAdd, Nat.reduceMul, Nat.reduceDiv, Nat.reduceSub, Nat.reduceLeDiff, Nat.reduceLT, Int.reduceLE, Int.reduceLT, foldA, maxA, minA, r9] <;> with_reducible rfl, rfl⟩
end PK

/- Package feed as code of the abstract machine. -/
namespace PK
open Go PAbs

noncomputable def c_feed_Feed_Total : AFn := AFn.mk 9 [.tmp 2]
  (.seq (.region
      [⟨some 2, .mv (.k (.c (.int .i64 0))), none⟩])
  (.seq (.seq (.region
        [⟨some 3, .mv (.t 0), none⟩,
          ⟨some 4, .eq false .ptr (.t 3) (.k (.c (.pnil))), none⟩])
    (.cond (.t 4)
      (.seq (.region
          [⟨some 2, .mv (.k (.c (.int .i64 0))), none⟩])
      (.ret))
      (.skip)))
  (.seq (.region
      [⟨some 5, .mv (.t 0), none⟩,
        ⟨some 6, .nilCheck (.t 5), none⟩,
        ⟨some 7, .fieldAddr 3 (.t 6), none⟩,
        ⟨some 8, .load1 (.t 7), none⟩,
        ⟨some 2, .mv (.t 8), none⟩])
  (.ret))))
theorem t_feed_Feed_Total : A F_feed_Feed_Total = some c_feed_Feed_Total := by kernel_rfl

noncomputable def c_feed_Feed_Put : AFn := AFn.mk 78 [.tmp 4]
  (.seq (.region
      [⟨some 4, .mv (.k (.c (.snil))), none⟩])
  (.seq (.seq (.region
        [⟨some 8, .mv (.t 0), none⟩,
          ⟨some 9, .eq false .ptr (.t 8) (.k (.c (.pnil))), none⟩,
          ⟨some 10, .mv (.t 9), none⟩,
          ⟨some 11, .mv (.t 0), some (10, false)⟩,
          ⟨some 12, .nilCheck (.t 11), some (10, false)⟩,
          ⟨some 13, .fieldAddr 0 (.t 12), some (10, false)⟩,
          ⟨some 14, .load1 (.t 13), some (10, false)⟩,
          ⟨some 15, .bin .eql (.t 14) (.k (.c (.int .i64 0))), some (10, false)⟩,
          ⟨some 16, .pick (.t 10) (.k (.c (.bool true))) (.t 15), none⟩])
    (.cond (.t 16)
      (.seq (.region
          [⟨some 4, .mv (.k (.c (.snil))), none⟩])
      (.ret))
      (.skip)))
  (.seq (.region
      [⟨some 5, .mv (.k (.c (.snil))), none⟩])
  (.seq (.seq (.region
        [⟨some 17, .mv (.t 1), none⟩,
          ⟨some 18, .len false (.t 17), none⟩,
          ⟨some 19, .mv (.k (.c (.int .i64 0))), none⟩])
    (.block 0
      (.loop
        (.seq (.region
            [⟨some 20, .bin .lss (.t 19) (.t 18), none⟩])
        (.seq (.cond (.t 20)
            (.skip)
            (.exit 0))
        (.seq (.block 1
            (.seq (.region
                [⟨some 21, .idxSlc 1 (.t 17) (.t 19), none⟩,
                  ⟨some 22, .load1 (.t 21), none⟩,
                  ⟨some 7, .mv (.t 22), none⟩])
            (.seq (.region
                [⟨some 23, .mv (.t 0), none⟩,
                  ⟨some 24, .nilCheck (.t 23), none⟩,
                  ⟨some 25, .fieldAddr 3 (.t 24), none⟩,
                  ⟨some 26, .load1 (.t 25), none⟩,
                  ⟨some 27, .mv (.t 7), none⟩,
                  ⟨some 28, .len true (.t 27), none⟩,
                  ⟨some 29, .bin .add (.t 26) (.t 28), none⟩,
                  ⟨some 30, .nilCheck (.t 23), none⟩,
                  ⟨some 31, .fieldAddr 3 (.t 30), none⟩,
                  ⟨none, .store 1 (.t 31) (.t 29), none⟩])
            (.seq (.region
                [⟨some 32, .mv (.t 0), none⟩,
                  ⟨some 33, .mv (.t 0), none⟩,
                  ⟨some 34, .nilCheck (.t 33), none⟩,
                  ⟨some 35, .fieldAddr 2 (.t 34), none⟩,
                  ⟨some 36, .load1 (.t 35), none⟩,
                  ⟨some 37, .mv (.t 7), none⟩,
                  ⟨some 38, .append ([.int .u8 0]) 1 (.t 36) (.t 37), none⟩,
                  ⟨some 39, .nilCheck (.t 32), none⟩,
                  ⟨some 40, .fieldAddr 2 (.t 39), none⟩,
                  ⟨none, .store 1 (.t 40) (.t 38), none⟩])
            (.block 2
              (.loop
                (.seq (.seq (.region
                      [⟨some 41, .mv (.t 0), none⟩,
                        ⟨some 42, .call F_feed_Feed_full [.t 41], none⟩])
                  (.cond (.t 42)
                    (.skip)
                    (.exit 2)))
                (.block 3
                  (.seq (.draw
                      [⟨some 43, .mv (.t 5), none⟩,
                        ⟨some 44, .mv (.t 0), none⟩,
                        ⟨some 45, .nilCheck (.t 44), none⟩,
                        ⟨some 46, .fieldAddr 2 (.t 45), none⟩,
                        ⟨some 47, .load1 (.t 46), none⟩,
                        ⟨some 48, .mv (.t 0), none⟩,
                        ⟨some 49, .nilCheck (.t 48), none⟩,
                        ⟨some 50, .fieldAddr 0 (.t 49), none⟩,
                        ⟨some 51, .load1 (.t 50), none⟩,
                        ⟨some 52, .sliceS 1 (.t 47) none (some (.t 51)), none⟩,
                        ⟨some 53, .append ([.int .u8 0]) 1 (.k (.c (.snil))) (.t 52), none⟩,
                        ⟨some 54, .buildSlice ([.snil]) 1 1 [(0, 1, .t 53)], none⟩]
                      [⟨some 55, .append ([.snil]) 24 (.t 43) (.t 54), none⟩,
                        ⟨some 5, .mv (.t 55), none⟩])
                  (.draw
                    [⟨some 56, .mv (.t 0), none⟩,
                      ⟨some 57, .mv (.t 0), none⟩,
                      ⟨some 58, .nilCheck (.t 57), none⟩,
                      ⟨some 59, .fieldAddr 2 (.t 58), none⟩,
                      ⟨some 60, .load1 (.t 59), none⟩,
                      ⟨some 61, .mv (.t 0), none⟩,
                      ⟨some 62, .nilCheck (.t 61), none⟩,
                      ⟨some 63, .fieldAddr 0 (.t 62), none⟩,
                      ⟨some 64, .load1 (.t 63), none⟩,
                      ⟨some 65, .sliceS 1 (.t 60) (some (.t 64)) none, none⟩]
                    [⟨some 66, .nilCheck (.t 56), none⟩,
                      ⟨some 67, .fieldAddr 2 (.t 66), none⟩,
                      ⟨none, .store 1 (.t 67) (.t 65), none⟩]))))))))))
        (.region
          [⟨some 68, .bin .add (.t 19) (.k (.c (.int .i64 1))), none⟩,
            ⟨some 19, .mv (.t 68), none⟩])))))))
  (.seq (.region
      [⟨some 69, .mv (.t 0), none⟩,
        ⟨some 70, .mv (.t 0), none⟩,
        ⟨some 71, .nilCheck (.t 70), none⟩,
        ⟨some 72, .fieldAddr 2 (.t 71), none⟩,
        ⟨some 73, .load1 (.t 72), none⟩,
        ⟨some 74, .append ([.int .u8 0]) 1 (.k (.c (.snil))) (.t 73), none⟩,
        ⟨some 75, .nilCheck (.t 69), none⟩,
        ⟨some 76, .fieldAddr 2 (.t 75), none⟩,
        ⟨none, .store 1 (.t 76) (.t 74), none⟩])
  (.seq (.region
      [⟨some 77, .mv (.t 5), none⟩,
        ⟨some 4, .mv (.t 77), none⟩])
  (.ret)))))))
theorem t_feed_Feed_Put : A F_feed_Feed_Put = some c_feed_Feed_Put := by kernel_rfl

noncomputable def c_feed_Feed_Copy : AFn := AFn.mk 12 [.tmp 2]
  (.seq (.region
      [⟨some 2, .mv (.k (.c (.pnil))), none⟩])
  (.seq (.seq (.region
        [⟨some 4, .mv (.t 0), none⟩,
          ⟨some 5, .eq false .ptr (.t 4) (.k (.c (.pnil))), none⟩])
    (.cond (.t 5)
      (.seq (.region
          [⟨some 2, .mv (.k (.c (.pnil))), none⟩])
      (.ret))
      (.skip)))
  (.seq (.region
      [⟨some 6, .mv (.t 0), none⟩,
        ⟨some 7, .nilCheck (.t 6), none⟩,
        ⟨some 8, .loadN 4 (.t 7), none⟩,
        ⟨some 3, .alloc ([.int .i64 0, .bool false, .snil, .int .i64 0]), none⟩,
        ⟨none, .store 4 (.t 3) (.t 8), none⟩])
  (.seq (.region
      [⟨some 9, .mv (.t 0), none⟩,
        ⟨some 10, .call F_feed_Feed_Rest [.t 9], none⟩,
        ⟨some 11, .fieldAddr 2 (.t 3), none⟩,
        ⟨none, .store 1 (.t 11) (.t 10), none⟩])
  (.seq (.region
      [⟨some 2, .mv (.t 3), none⟩])
  (.ret))))))
theorem t_feed_Feed_Copy : A F_feed_Feed_Copy = some c_feed_Feed_Copy := by kernel_rfl

noncomputable def c_feed_New : AFn := AFn.mk 16 [.tmp 4, .tmp 5]
  (.seq (.region
      [⟨some 4, .mv (.k (.c (.pnil))), none⟩,
        ⟨some 5, .mv (.k (.c (.int .i64 0))), none⟩])
  (.seq (.seq (.region
        [⟨some 6, .mv (.t 0), none⟩,
          ⟨some 7, .bin .lss (.t 6) (.k (.c (.int .i64 1))), none⟩,
          ⟨some 8, .mv (.t 7), none⟩,
          ⟨some 9, .mv (.t 0), some (8, false)⟩,
          ⟨some 10, .bin .gtr (.t 9) (.k (.c (.int .i64 65536))), some (8, false)⟩,
          ⟨some 11, .pick (.t 8) (.k (.c (.bool true))) (.t 10), none⟩])
    (.cond (.t 11)
      (.seq (.region
          [⟨some 4, .mv (.k (.c (.pnil))), none⟩,
            ⟨some 5, .mv (.k (.c (.int .i64 1))), none⟩])
      (.ret))
      (.skip)))
  (.seq (.region
      [⟨some 12, .mv (.t 0), none⟩,
        ⟨some 13, .mv (.t 1), none⟩,
        ⟨some 14, .build ([.int .i64 0, .bool false, .snil, .int .i64 0]) [(0, 1, .t 12), (1, 1, .t 13)], none⟩,
        ⟨some 15, .box (.t 14), none⟩,
        ⟨some 4, .mv (.t 15), none⟩,
        ⟨some 5, .mv (.k (.c (.int .i64 0))), none⟩])
  (.ret))))
theorem t_feed_New : A F_feed_New = some c_feed_New := by kernel_rfl

noncomputable def c_feed_Feed_full : AFn := AFn.mk 27 [.tmp 2]
  (.seq (.region
      [⟨some 2, .mv (.k (.c (.bool false))), none⟩])
  (.seq (.seq (.region
        [⟨some 3, .mv (.t 0), none⟩,
          ⟨some 4, .nilCheck (.t 3), none⟩,
          ⟨some 5, .fieldAddr 1 (.t 4), none⟩,
          ⟨some 6, .load1 (.t 5), none⟩])
    (.cond (.t 6)
      (.seq (.draw
          [⟨some 7, .mv (.t 0), none⟩,
            ⟨some 8, .nilCheck (.t 7), none⟩,
            ⟨some 9, .fieldAddr 2 (.t 8), none⟩,
            ⟨some 10, .load1 (.t 9), none⟩,
            ⟨some 11, .len false (.t 10), none⟩,
            ⟨some 12, .mv (.t 0), none⟩,
            ⟨some 13, .nilCheck (.t 12), none⟩,
            ⟨some 14, .fieldAddr 0 (.t 13), none⟩,
            ⟨some 15, .load1 (.t 14), none⟩]
          [⟨some 16, .bin .gtr (.t 11) (.t 15), none⟩,
            ⟨some 2, .mv (.t 16), none⟩])
      (.ret))
      (.skip)))
  (.seq (.draw
      [⟨some 17, .mv (.t 0), none⟩,
        ⟨some 18, .nilCheck (.t 17), none⟩,
        ⟨some 19, .fieldAddr 2 (.t 18), none⟩,
        ⟨some 20, .load1 (.t 19), none⟩,
        ⟨some 21, .len false (.t 20), none⟩,
        ⟨some 22, .mv (.t 0), none⟩,
        ⟨some 23, .nilCheck (.t 22), none⟩,
        ⟨some 24, .fieldAddr 0 (.t 23), none⟩,
        ⟨some 25, .load1 (.t 24), none⟩]
      [⟨some 26, .bin .geq (.t 21) (.t 25), none⟩,
        ⟨some 2, .mv (.t 26), none⟩])
  (.ret))))
theorem t_feed_Feed_full : A F_feed_Feed_full = some c_feed_Feed_full := by kernel_rfl

noncomputable def c_feed_Feed_Rest : AFn := AFn.mk 10 [.tmp 2]
  (.seq (.region
      [⟨some 2, .mv (.k (.c (.snil))), none⟩])
  (.seq (.seq (.region
        [⟨some 3, .mv (.t 0), none⟩,
          ⟨some 4, .eq false .ptr (.t 3) (.k (.c (.pnil))), none⟩])
    (.cond (.t 4)
      (.seq (.region
          [⟨some 2, .mv (.k (.c (.snil))), none⟩])
      (.ret))
      (.skip)))
  (.seq (.region
      [⟨some 5, .mv (.t 0), none⟩,
        ⟨some 6, .nilCheck (.t 5), none⟩,
        ⟨some 7, .fieldAddr 2 (.t 6), none⟩,
        ⟨some 8, .load1 (.t 7), none⟩,
        ⟨some 9, .append ([.int .u8 0]) 1 (.k (.c (.snil))) (.t 8), none⟩,
        ⟨some 2, .mv (.t 9), none⟩])
  (.ret))))
theorem t_feed_Feed_Rest : A F_feed_Feed_Rest = some c_feed_Feed_Rest := by kernel_rfl
end PK

/- Package feed: what a feed is, and its methods' contracts. -/
namespace PK
open Go PAbs
set_option linter.unusedSimpArgs false
set_option linter.unusedVariables false
set_option maxRecDepth 100000
set_option maxHeartbeats 4000000

def nb (size : Nat) (lazy : Bool) (n : Nat) : Nat := if lazy then (n - 1) / size else n / size
def blk (size : Nat) (all : List UInt8) (i : Nat) : List UInt8 := (all.drop (i * size)).take size
def blks (size : Nat) (all : List UInt8) (k : Nat) : List (List UInt8) := (List.range k).map (blk size all)
theorem blks_length {size : Nat} {all : List UInt8} {k : Nat} : (blks size all k).length = k := by simp [blks]
theorem blks_succ {size : Nat} {all : List UInt8} {k : Nat} : blks size all (k + 1) = blks size all k ++ [blk size all k] := by simp [blks, List.range_succ]
theorem nb_le {size : Nat} {lazy : Bool} {n : Nat} (h0 : 0 < size) : nb size lazy n * size ≤ n := by
  cases lazy with
  | true => simp only [nb, if_true]; have := Nat.div_mul_le_self (n - 1) size; omega
  | false => simp only [nb, Bool.false_eq_true, if_false]; exact Nat.div_mul_le_self n size
theorem nb_mono {size : Nat} {lazy : Bool} {n m : Nat} (h : n ≤ m) : nb size lazy n ≤ nb size lazy m := by
  cases lazy with
  | true => simp only [nb, if_true]; exact Nat.div_le_div_right (by omega)
  | false => simp only [nb, Bool.false_eq_true, if_false]; exact Nat.div_le_div_right h
theorem nb_full {size : Nat} {lazy : Bool} {n k : Nat} (h0 : 0 < size) (hk : k * size ≤ n) : (if lazy then decide (n - k * size > size) else decide (n - k * size ≥ size)) = decide (k < nb size lazy n) := by
  have e : (k + 1) * size = k * size + size := by rw [Nat.add_mul, Nat.one_mul]
  cases lazy with
  | true =>
    simp only [nb, if_true]
    have := @Nat.le_div_iff_mul_le size (k + 1) (n - 1) h0
    have h2 : k < (n - 1) / size ↔ n - k * size > size := ⟨fun h => by have := this.mp h; omega, fun h => this.mpr (by omega)⟩
    simp only [h2]
  | false =>
    simp only [nb, Bool.false_eq_true, if_false]
    have := @Nat.le_div_iff_mul_le size (k + 1) n h0
    have h2 : k < n / size ↔ n - k * size ≥ size := ⟨fun h => by have := this.mp h; omega, fun h => this.mpr (by omega)⟩
    simp only [h2]
theorem blk_append {size : Nat} {a p : List UInt8} {i k : Nat} (hk : k * size ≤ a.length) (hi : i < k) : blk size (a ++ p) i = blk size a i := by
  have h1 : (i + 1) * size ≤ k * size := Nat.mul_le_mul_right _ hi
  rw [Nat.add_mul, Nat.one_mul] at h1
  simp only [blk]
  rw [List.drop_append_of_le_length (by omega), List.take_append_of_le_length (by rw [List.length_drop]; omega)]
theorem blks_append {size : Nat} {a p : List UInt8} {k : Nat} (hk : k * size ≤ a.length) : blks size (a ++ p) k = blks size a k := by
  simp only [blks]
  apply List.map_congr_left
  intro i hi
  exact blk_append hk (List.mem_range.mp hi)

def FeedAt (H : AHeap) (p : Nat) (x : Cell) (size : Nat) (lazy : Bool) (held : List UInt8) (total : Nat) : Prop :=
  hown H p = some [.int .i64 (size : Int), .bool lazy, x, .int .i64 (total : Int)] ∧ OwnT 0 H x 1 (B8 held) ∧ ¬ inX x p
theorem FeedAt.chg {S : Nat → Prop} {H H' : AHeap} {p : Nat} {x : Cell} {size : Nat} {lazy : Bool} {held : List UInt8} {total : Nat} (h : FeedAt H p x size lazy held total) (hc : Chg S H H') (hp : ¬ S p) (hx : ∀ b, inX x b → ¬ S b) : FeedAt H' p x size lazy held total :=
  ⟨hc.hown hp h.1, h.2.1.chg hc hx, h.2.2⟩

theorem AC_feed_New (fl : Nat) (H : AHeap) (size : Int) (lazy : Bool) : AC A fl F_feed_New [.c (.int .i64 size), .c (.bool lazy)] H (fun v H' => ((size < 1 ∨ size > 65536) ∧ v = .tup [.c .pnil, .c (.int .i64 1)] ∧ H = H') ∨ (1 ≤ size ∧ size ≤ 65536 ∧ v = .tup [.c (.ptr H.length 0), .c (.int .i64 0)] ∧ H' = H ++ [.own [.int .i64 size, .bool lazy, .snil, .int .i64 0]])) := by
  refine AC_enter t_feed_New ?_; simp only [c_feed_New, enterA, List.replicate, List.length_cons, List.length_nil, Nat.reduceAdd, Nat.reduceSub, List.cons_append, List.nil_append]
  rcases Decidable.em (size < 1) with h1 | h1
  · (repeat (first | with_reducible refine thenQ_n ?_ | with_reducible refine blockQ_n ?_ | refine AW_skip ?_ | refine AW_seq ?_ | refine AW_ops ?_ | refine AW_blockS ?_ | refine AW_blockR ?_ | refine AW_blockD ?_ | refine AW_blockC ?_ | refine AO_nil ?_ | refine AW_draw ?_ | refine AW_draw3 ?_ | refine AW_blockD3 ?_ | refine AHd_nil ?_ | ((first | with_reducible apply AO_pre | with_reducible apply AHd_pre); focus (simp only [Sm, wantedA, execA, stepA, List.getElem?_cons_zero, List.getElem?_cons_succ, if_true, if_false, binA, binInt, unA, eqA, Option.map, eq_self, reduceCtorEq, ite_true, ite_false, fitsAll, CK.fits, fillA, AV.cells, writeN, readN, sliceCells, appendA, lenA, i64, loA, hiA, Nat.reduceAdd, Nat.reduceMul, Nat.reduceDiv, Nat.reduceSub, Nat.reduceLeDiff, Nat.reduceLT, Int.reduceLE, Int.reduceLT, foldA, maxA, minA, Int.reduceBEq, Int.reduceBNe, Int.reduceGT, Int.reduceGE, Int.reduceEq, Int.reduceNe, Int.reduceToNat, AOp.stops, ↓want_eq, ↓exec_lenX, decide_eq_true h1]; with_reducible rfl))))
    refine AW_cond (t := true) rfl (fun _ => ?_) (fun h => by cases h)
    (repeat (first | with_reducible refine thenQ_n ?_ | with_reducible refine blockQ_n ?_ | refine AW_skip ?_ | refine AW_seq ?_ | refine AW_ops ?_ | refine AW_blockS ?_ | refine AW_blockR ?_ | refine AW_blockD ?_ | refine AW_blockC ?_ | refine AO_nil ?_ | refine AW_draw ?_ | refine AW_draw3 ?_ | refine AW_blockD3 ?_ | refine AHd_nil ?_ | ((first | with_reducible apply AO_pre | with_reducible apply AHd_pre); focus (simp only [Sm, wantedA, execA, stepA, List.getElem?_cons_zero, List.getElem?_cons_succ, if_true, if_false, binA, binInt, unA, eqA, Option.map, eq_self, reduceCtorEq, ite_true, ite_false, fitsAll, CK.fits, fillA, AV.cells, writeN, readN, sliceCells, appendA, lenA, i64, loA, hiA, Nat.reduceAdd, Nat.reduceMul, Nat.reduceDiv, Nat.reduceSub, Nat.reduceLeDiff, Nat.reduceLT, Int.reduceLE, Int.reduceLT, foldA, maxA, minA, Int.reduceBEq, Int.reduceBNe, Int.reduceGT, Int.reduceGE, Int.reduceEq, Int.reduceNe, Int.reduceToNat, AOp.stops, ↓want_eq, ↓exec_lenX]; with_reducible rfl))))
    exact AW_ret ⟨_, rfl, .inl ⟨.inl h1, rfl, rfl⟩⟩
  rcases Decidable.em (size > 65536) with h2 | h2
  · (repeat (first | with_reducible refine thenQ_n ?_ | with_reducible refine blockQ_n ?_ | refine AW_skip ?_ | refine AW_seq ?_ | refine AW_ops ?_ | refine AW_blockS ?_ | refine AW_blockR ?_ | refine AW_blockD ?_ | refine AW_blockC ?_ | refine AO_nil ?_ | refine AW_draw ?_ | refine AW_draw3 ?_ | refine AW_blockD3 ?_ | refine AHd_nil ?_ | ((first | with_reducible apply AO_pre | with_reducible apply AHd_pre); focus (simp only [Sm, wantedA, execA, stepA, List.getElem?_cons_zero, List.getElem?_cons_succ, if_true, if_false, binA, binInt, unA, eqA, Option.map, eq_self, reduceCtorEq, ite_true, ite_false, fitsAll, CK.fits, fillA, AV.cells, writeN, readN, sliceCells, appendA, lenA, i64, loA, hiA, Nat.reduceAdd, Nat.reduceMul, Nat.reduceDiv, Nat.reduceSub, Nat.reduceLeDiff, Nat.reduceLT, Int.reduceLE, Int.reduceLT, foldA, maxA, minA, Int.reduceBEq, Int.reduceBNe, Int.reduceGT, Int.reduceGE, Int.reduceEq, Int.reduceNe, Int.reduceToNat, AOp.stops, ↓want_eq, ↓exec_lenX, decide_eq_false h1, decide_eq_true h2]; with_reducible rfl))))
    refine AW_cond (t := true) rfl (fun _ => ?_) (fun h => by cases h)
    (repeat (first | with_reducible refine thenQ_n ?_ | with_reducible refine blockQ_n ?_ | refine AW_skip ?_ | refine AW_seq ?_ | refine AW_ops ?_ | refine AW_blockS ?_ | refine AW_blockR ?_ | refine AW_blockD ?_ | refine AW_blockC ?_ | refine AO_nil ?_ | refine AW_draw ?_ | refine AW_draw3 ?_ | refine AW_blockD3 ?_ | refine AHd_nil ?_ | ((first | with_reducible apply AO_pre | with_reducible apply AHd_pre); focus (simp only [Sm, wantedA, execA, stepA, List.getElem?_cons_zero, List.getElem?_cons_succ, if_true, if_false, binA, binInt, unA, eqA, Option.map, eq_self, reduceCtorEq, ite_true, ite_false, fitsAll, CK.fits, fillA, AV.cells, writeN, readN, sliceCells, appendA, lenA, i64, loA, hiA, Nat.reduceAdd, Nat.reduceMul, Nat.reduceDiv, Nat.reduceSub, Nat.reduceLeDiff, Nat.reduceLT, Int.reduceLE, Int.reduceLT, foldA, maxA, minA, Int.reduceBEq, Int.reduceBNe, Int.reduceGT, Int.reduceGE, Int.reduceEq, Int.reduceNe, Int.reduceToNat, AOp.stops, ↓want_eq, ↓exec_lenX]; with_reducible rfl))))
    exact AW_ret ⟨_, rfl, .inl ⟨.inr h2, rfl, rfl⟩⟩
  · (repeat (first | with_reducible refine thenQ_n ?_ | with_reducible refine blockQ_n ?_ | refine AW_skip ?_ | refine AW_seq ?_ | refine AW_ops ?_ | refine AW_blockS ?_ | refine AW_blockR ?_ | refine AW_blockD ?_ | refine AW_blockC ?_ | refine AO_nil ?_ | refine AW_draw ?_ | refine AW_draw3 ?_ | refine AW_blockD3 ?_ | refine AHd_nil ?_ | ((first | with_reducible apply AO_pre | with_reducible apply AHd_pre); focus (simp only [Sm, wantedA, execA, stepA, List.getElem?_cons_zero, List.getElem?_cons_succ, if_true, if_false, binA, binInt, unA, eqA, Option.map, eq_self, reduceCtorEq, ite_true, ite_false, fitsAll, CK.fits, fillA, AV.cells, writeN, readN, sliceCells, appendA, lenA, i64, loA, hiA, Nat.reduceAdd, Nat.reduceMul, Nat.reduceDiv, Nat.reduceSub, Nat.reduceLeDiff, Nat.reduceLT, Int.reduceLE, Int.reduceLT, foldA, maxA, minA, Int.reduceBEq, Int.reduceBNe, Int.reduceGT, Int.reduceGE, Int.reduceEq, Int.reduceNe, Int.reduceToNat, AOp.stops, ↓want_eq, ↓exec_lenX, decide_eq_false h1, decide_eq_false h2]; with_reducible rfl))))
    refine AW_cond (t := false) rfl (fun h => by cases h) fun _ => ?_
    (repeat (first | with_reducible refine thenQ_n ?_ | with_reducible refine blockQ_n ?_ | refine AW_skip ?_ | refine AW_seq ?_ | refine AW_ops ?_ | refine AW_blockS ?_ | refine AW_blockR ?_ | refine AW_blockD ?_ | refine AW_blockC ?_ | refine AO_nil ?_ | refine AW_draw ?_ | refine AW_draw3 ?_ | refine AW_blockD3 ?_ | refine AHd_nil ?_ | ((first | with_reducible apply AO_pre | with_reducible apply AHd_pre); focus (simp only [Sm, wantedA, execA, stepA, List.getElem?_cons_zero, List.getElem?_cons_succ, if_true, if_false, binA, binInt, unA, eqA, Option.map, eq_self, reduceCtorEq, ite_true, ite_false, fitsAll, CK.fits, fillA, AV.cells, writeN, readN, sliceCells, appendA, lenA, i64, loA, hiA, Nat.reduceAdd, Nat.reduceMul, Nat.reduceDiv, Nat.reduceSub, Nat.reduceLeDiff, Nat.reduceLT, Int.reduceLE, Int.reduceLT, foldA, maxA, minA, Int.reduceBEq, Int.reduceBNe, Int.reduceGT, Int.reduceGE, Int.reduceEq, Int.reduceNe, Int.reduceToNat, AOp.stops, ↓want_eq, ↓exec_lenX]; with_reducible rfl))))
    exact AW_ret ⟨_, rfl, .inr ⟨by omega, by omega, rfl, rfl⟩⟩

section
variable (H : AHeap) (p : Nat) (x : Cell) (size : Nat) (lazy : Bool) (held : List UInt8) (total : Nat)

theorem AC_feed_full (hF : FeedAt H p x size lazy held total) : AC A H.length F_feed_Feed_full [.c (.ptr p 0)] H (fun v H' => v = .c (.bool (if lazy then decide (held.length > size) else decide (held.length ≥ size))) ∧ H = H') := by
  obtain ⟨h1, h2, h3⟩ := hF
  have hp := hcells_own h1
  have hl := h2.rd.len1 held.length B8_length
  refine AC_enter t_feed_Feed_full ?_; simp only [c_feed_Feed_full, enterA, List.replicate, List.length_cons, List.length_nil, Nat.reduceAdd, Nat.reduceSub, List.cons_append, List.nil_append]
  cases lazy with
  | true =>
    (repeat (first | with_reducible refine thenQ_n ?_ | with_reducible refine blockQ_n ?_ | refine AW_skip ?_ | refine AW_seq ?_ | refine AW_ops ?_ | refine AW_blockS ?_ | refine AW_blockR ?_ | refine AW_blockD ?_ | refine AW_blockC ?_ | refine AO_nil ?_ | refine AW_draw ?_ | refine AW_draw3 ?_ | refine AW_blockD3 ?_ | refine AHd_nil ?_ | ((first | with_reducible apply AO_pre | with_reducible apply AHd_pre); focus (simp only [Sm, wantedA, execA, stepA, List.getElem?_cons_zero, List.getElem?_cons_succ, if_true, if_false, binA, binInt, unA, eqA, Option.map, eq_self, reduceCtorEq, ite_true, ite_false, fitsAll, CK.fits, fillA, AV.cells, writeN, readN, sliceCells, appendA, lenA, i64, loA, hiA, Nat.reduceAdd, Nat.reduceMul, Nat.reduceDiv, Nat.reduceSub, Nat.reduceLeDiff, Nat.reduceLT, Int.reduceLE, Int.reduceLT, foldA, maxA, minA, Int.reduceBEq, Int.reduceBNe, Int.reduceGT, Int.reduceGE, Int.reduceEq, Int.reduceNe, Int.reduceToNat, AOp.stops, ↓want_eq, ↓exec_lenX, hp]; with_reducible rfl))))
    refine AW_cond (t := true) rfl (fun _ => ?_) (fun h => by cases h)
    (repeat (first | with_reducible refine thenQ_n ?_ | with_reducible refine blockQ_n ?_ | refine AW_skip ?_ | refine AW_seq ?_ | refine AW_ops ?_ | refine AW_blockS ?_ | refine AW_blockR ?_ | refine AW_blockD ?_ | refine AW_blockC ?_ | refine AO_nil ?_ | refine AW_draw ?_ | refine AW_draw3 ?_ | refine AW_blockD3 ?_ | refine AHd_nil ?_ | ((first | with_reducible apply AO_pre | with_reducible apply AHd_pre); focus (simp only [Sm, wantedA, execA, stepA, List.getElem?_cons_zero, List.getElem?_cons_succ, if_true, if_false, binA, binInt, unA, eqA, Option.map, eq_self, reduceCtorEq, ite_true, ite_false, fitsAll, CK.fits, fillA, AV.cells, writeN, readN, sliceCells, appendA, lenA, i64, loA, hiA, Nat.reduceAdd, Nat.reduceMul, Nat.reduceDiv, Nat.reduceSub, Nat.reduceLeDiff, Nat.reduceLT, Int.reduceLE, Int.reduceLT, foldA, maxA, minA, Int.reduceBEq, Int.reduceBNe, Int.reduceGT, Int.reduceGE, Int.reduceEq, Int.reduceNe, Int.reduceToNat, AOp.stops, ↓want_eq, ↓exec_lenX, hp, hl]; with_reducible rfl))))
    refine AW_ret ⟨_, rfl, ?_, rfl⟩
    simp only [if_true, Int.ofNat_lt, gt_iff_lt]; rfl
  | false =>
    (repeat (first | with_reducible refine thenQ_n ?_ | with_reducible refine blockQ_n ?_ | refine AW_skip ?_ | refine AW_seq ?_ | refine AW_ops ?_ | refine AW_blockS ?_ | refine AW_blockR ?_ | refine AW_blockD ?_ | refine AW_blockC ?_ | refine AO_nil ?_ | refine AW_draw ?_ | refine AW_draw3 ?_ | refine AW_blockD3 ?_ | refine AHd_nil ?_ | ((first | with_reducible apply AO_pre | with_reducible apply AHd_pre); focus (simp only [Sm, wantedA, execA, stepA, List.getElem?_cons_zero, List.getElem?_cons_succ, if_true, if_false, binA, binInt, unA, eqA, Option.map, eq_self, reduceCtorEq, ite_true, ite_false, fitsAll, CK.fits, fillA, AV.cells, writeN, readN, sliceCells, appendA, lenA, i64, loA, hiA, Nat.reduceAdd, Nat.reduceMul, Nat.reduceDiv, Nat.reduceSub, Nat.reduceLeDiff, Nat.reduceLT, Int.reduceLE, Int.reduceLT, foldA, maxA, minA, Int.reduceBEq, Int.reduceBNe, Int.reduceGT, Int.reduceGE, Int.reduceEq, Int.reduceNe, Int.reduceToNat, AOp.stops, ↓want_eq, ↓exec_lenX, hp]; with_reducible rfl))))
    refine AW_cond (t := false) rfl (fun h => by cases h) fun _ => ?_
    (repeat (first | with_reducible refine thenQ_n ?_ | with_reducible refine blockQ_n ?_ | refine AW_skip ?_ | refine AW_seq ?_ | refine AW_ops ?_ | refine AW_blockS ?_ | refine AW_blockR ?_ | refine AW_blockD ?_ | refine AW_blockC ?_ | refine AO_nil ?_ | refine AW_draw ?_ | refine AW_draw3 ?_ | refine AW_blockD3 ?_ | refine AHd_nil ?_ | ((first | with_reducible apply AO_pre | with_reducible apply AHd_pre); focus (simp only [Sm, wantedA, execA, stepA, List.getElem?_cons_zero, List.getElem?_cons_succ, if_true, if_false, binA, binInt, unA, eqA, Option.map, eq_self, reduceCtorEq, ite_true, ite_false, fitsAll, CK.fits, fillA, AV.cells, writeN, readN, sliceCells, appendA, lenA, i64, loA, hiA, Nat.reduceAdd, Nat.reduceMul, Nat.reduceDiv, Nat.reduceSub, Nat.reduceLeDiff, Nat.reduceLT, Int.reduceLE, Int.reduceLT, foldA, maxA, minA, Int.reduceBEq, Int.reduceBNe, Int.reduceGT, Int.reduceGE, Int.reduceEq, Int.reduceNe, Int.reduceToNat, AOp.stops, ↓want_eq, ↓exec_lenX, hp, hl]; with_reducible rfl))))
    refine AW_ret ⟨_, rfl, ?_, rfl⟩
    simp only [Bool.false_eq_true, if_false, ge_iff_le, Int.ofNat_le]; rfl

theorem AC_feed_Total (hF : FeedAt H p x size lazy held total) : AC A H.length F_feed_Feed_Total [.c (.ptr p 0)] H (fun v H' => v = .c (.int .i64 (total : Int)) ∧ H = H') := by
  have hp := hcells_own hF.1
  refine AC_enter t_feed_Feed_Total ?_; simp only [c_feed_Feed_Total, enterA, List.replicate, List.length_cons, List.length_nil, Nat.reduceAdd, Nat.reduceSub, List.cons_append, List.nil_append]
  (repeat (first | with_reducible refine thenQ_n ?_ | with_reducible refine blockQ_n ?_ | refine AW_skip ?_ | refine AW_seq ?_ | refine AW_ops ?_ | refine AW_blockS ?_ | refine AW_blockR ?_ | refine AW_blockD ?_ | refine AW_blockC ?_ | refine AO_nil ?_ | refine AW_draw ?_ | refine AW_draw3 ?_ | refine AW_blockD3 ?_ | refine AHd_nil ?_ | ((first | with_reducible apply AO_pre | with_reducible apply AHd_pre); focus (simp only [Sm, wantedA, execA, stepA, List.getElem?_cons_zero, List.getElem?_cons_succ, if_true, if_false, binA, binInt, unA, eqA, Option.map, eq_self, reduceCtorEq, ite_true, ite_false, fitsAll, CK.fits, fillA, AV.cells, writeN, readN, sliceCells, appendA, lenA, i64, loA, hiA, Nat.reduceAdd, Nat.reduceMul, Nat.reduceDiv, Nat.reduceSub, Nat.reduceLeDiff, Nat.reduceLT, Int.reduceLE, Int.reduceLT, foldA, maxA, minA, Int.reduceBEq, Int.reduceBNe, Int.reduceGT, Int.reduceGE, Int.reduceEq, Int.reduceNe, Int.reduceToNat, AOp.stops, ↓want_eq, ↓exec_lenX, hp]; with_reducible rfl))))
  refine AW_cond (t := false) rfl (fun h => by cases h) fun _ => ?_
  (repeat (first | with_reducible refine thenQ_n ?_ | with_reducible refine blockQ_n ?_ | refine AW_skip ?_ | refine AW_seq ?_ | refine AW_ops ?_ | refine AW_blockS ?_ | refine AW_blockR ?_ | refine AW_blockD ?_ | refine AW_blockC ?_ | refine AO_nil ?_ | refine AW_draw ?_ | refine AW_draw3 ?_ | refine AW_blockD3 ?_ | refine AHd_nil ?_ | ((first | with_reducible apply AO_pre | with_reducible apply AHd_pre); focus (simp only [Sm, wantedA, execA, stepA, List.getElem?_cons_zero, List.getElem?_cons_succ, if_true, if_false, binA, binInt, unA, eqA, Option.map, eq_self, reduceCtorEq, ite_true, ite_false, fitsAll, CK.fits, fillA, AV.cells, writeN, readN, sliceCells, appendA, lenA, i64, loA, hiA, Nat.reduceAdd, Nat.reduceMul, Nat.reduceDiv, Nat.reduceSub, Nat.reduceLeDiff, Nat.reduceLT, Int.reduceLE, Int.reduceLT, foldA, maxA, minA, Int.reduceBEq, Int.reduceBNe, Int.reduceGT, Int.reduceGE, Int.reduceEq, Int.reduceNe, Int.reduceToNat, AOp.stops, ↓want_eq, ↓exec_lenX, hp]; with_reducible rfl))))
  exact AW_ret ⟨_, rfl, rfl, rfl⟩
theorem AC_feed_Rest (hF : FeedAt H p x size lazy held total) (hb : held.length ≤ 100000000000) : AC A H.length F_feed_Feed_Rest [.c (.ptr p 0)] H (fun v H' => v = .c (.slc H.length 0 held.length 1) ∧ H' = H ++ [.own (B8 held)]) := by
  have hp := hcells_own hF.1
  have hr := hF.2.1.rd.cells
  refine AC_enter t_feed_Feed_Rest ?_; simp only [c_feed_Feed_Rest, enterA, List.replicate, List.length_cons, List.length_nil, Nat.reduceAdd, Nat.reduceSub, List.cons_append, List.nil_append]
  (repeat (first | with_reducible refine thenQ_n ?_ | with_reducible refine blockQ_n ?_ | refine AW_skip ?_ | refine AW_seq ?_ | refine AW_ops ?_ | refine AW_blockS ?_ | refine AW_blockR ?_ | refine AW_blockD ?_ | refine AW_blockC ?_ | refine AO_nil ?_ | refine AW_draw ?_ | refine AW_draw3 ?_ | refine AW_blockD3 ?_ | refine AHd_nil ?_ | ((first | with_reducible apply AO_pre | with_reducible apply AHd_pre); focus (simp only [Sm, wantedA, execA, stepA, List.getElem?_cons_zero, List.getElem?_cons_succ, if_true, if_false, binA, binInt, unA, eqA, Option.map, eq_self, reduceCtorEq, ite_true, ite_false, fitsAll, CK.fits, fillA, AV.cells, writeN, readN, sliceCells, appendA, lenA, i64, loA, hiA, Nat.reduceAdd, Nat.reduceMul, Nat.reduceDiv, Nat.reduceSub, Nat.reduceLeDiff, Nat.reduceLT, Int.reduceLE, Int.reduceLT, foldA, maxA, minA, Int.reduceBEq, Int.reduceBNe, Int.reduceGT, Int.reduceGE, Int.reduceEq, Int.reduceNe, Int.reduceToNat, AOp.stops, ↓want_eq, ↓exec_lenX, hp]; with_reducible rfl))))
  refine AW_cond (t := false) rfl (fun h => by cases h) fun _ => ?_
  (repeat (first | with_reducible refine thenQ_n ?_ | with_reducible refine blockQ_n ?_ | refine AW_skip ?_ | refine AW_seq ?_ | refine AW_ops ?_ | refine AW_blockS ?_ | refine AW_blockR ?_ | refine AW_blockD ?_ | refine AW_blockC ?_ | refine AO_nil ?_ | refine AW_draw ?_ | refine AW_draw3 ?_ | refine AW_blockD3 ?_ | refine AHd_nil ?_ | ((first | with_reducible apply AO_pre | with_reducible apply AHd_pre); focus (simp only [Sm, wantedA, execA, stepA, List.getElem?_cons_zero, List.getElem?_cons_succ, if_true, if_false, binA, binInt, unA, eqA, Option.map, eq_self, reduceCtorEq, ite_true, ite_false, fitsAll, CK.fits, fillA, AV.cells, writeN, readN, sliceCells, appendA, lenA, i64, loA, hiA, Nat.reduceAdd, Nat.reduceMul, Nat.reduceDiv, Nat.reduceSub, Nat.reduceLeDiff, Nat.reduceLT, Int.reduceLE, Int.reduceLT, foldA, maxA, minA, Int.reduceBEq, Int.reduceBNe, Int.reduceGT, Int.reduceGE, Int.reduceEq, Int.reduceNe, Int.reduceToNat, AOp.stops, ↓want_eq, ↓exec_lenX, hp, ↓exec_appNil, appNil_one hr B8_length (show held.length * 1 ≤ 140737488355328 by omega)]; with_reducible rfl))))
  refine AW_ret ⟨_, rfl, rfl, rfl⟩
end
end PK

/- Package feed: Put and Copy. -/
namespace PK
open Go PAbs
set_option linter.unusedSimpArgs false
set_option linter.unusedVariables false
set_option maxRecDepth 100000
set_option maxHeartbeats 4000000

theorem flat_take {ss : List (List UInt8)} {i : Nat} {x : List UInt8} (h : ss[i]? = some x) : (ss.take (i + 1)).flatten = (ss.take i).flatten ++ x := by
  rw [List.take_add_one, h]; simp

structure Fed (H0 H : AHeap) (p : Nat) (x0 x5 xh : Cell) (zs : List Cell) (size : Nat) (lazy : Bool) (all : List UInt8) (total k : Nat) : Prop where
  feed : FeedAt H p xh size lazy (all.drop (k * size)) total
  chg : Chg (fun b => b = p ∨ inX x0 b) H0 H
  hh : ∀ b, inX xh b → inX x0 b ∨ H0.length ≤ b
  out : BB H0.length H x5 zs (blks size all k)
  apart : ∀ b, inB x5 zs b → ¬ inX xh b
  le : k * size ≤ all.length
  self : ∀ z ∈ zs, ∀ b, inX z b → ¬ inX x5 b

theorem FeedAt.put {H : AHeap} {p : Nat} {x x' : Cell} {size : Nat} {lazy : Bool} {held held' : List UInt8} {total total' : Nat} (h : FeedAt H p x size lazy held total) (hx : OwnT 0 H x' 1 (B8 held')) (hn : ¬ inX x' p) :
    FeedAt (H.set p (.own [.int .i64 (size : Int), .bool lazy, x', .int .i64 (total' : Int)])) p x' size lazy held' total' :=
  ⟨hown_set (hown_lt h.1), hx.chg (Chg.set (S := (· = p)) rfl) (fun b hb e => hn (by rw [← e]; exact hb)), hn⟩
theorem drop_part {size : Nat} {all : List UInt8} {k : Nat} (h : (k + 1) * size ≤ all.length) : (all.drop (k * size)).take size = blk size all k ∧ (all.drop (k * size)).drop size = all.drop ((k + 1) * size) := by
  refine ⟨rfl, ?_⟩
  rw [List.drop_drop, Nat.add_mul, Nat.one_mul]


def putI (fl p : Nat) (x0 y : Cell) (size : Nat) (lazy : Bool) (held : List UInt8) (total : Nat) (ss : List (List UInt8)) (H0 : AHeap) (i : Nat) (fr : AFrame) (H : AHeap) : Prop :=
  ∃ x5 xh zs, Fed H0 H p x0 x5 xh zs size lazy (held ++ (ss.take i).flatten) (total + (ss.take i).flatten.length) (nb size lazy (held ++ (ss.take i).flatten).length) ∧ (∃ s : Nat → AV, fr = [.c (.ptr p 0), s 1, s 2, s 3, s 4, .c x5, s 6, s 7, s 8, s 9, s 10, s 11, s 12, s 13, s 14, s 15, s 16, .c y, .c (.int .i64 (ss.length : Int)), .c (.int .i64 (i : Int)), s 20, s 21, s 22, s 23, s 24, s 25, s 26, s 27, s 28, s 29, s 30, s 31, s 32, s 33, s 34, s 35, s 36, s 37, s 38, s 39, s 40, s 41, s 42, s 43, s 44, s 45, s 46, s 47, s 48, s 49, s 50, s 51, s 52, s 53, s 54, s 55, s 56, s 57, s 58, s 59, s 60, s 61, s 62, s 63, s 64, s 65, s 66, s 67, s 68, s 69, s 70, s 71, s 72, s 73, s 74, s 75, s 76, s 77])
def putJ (fl p : Nat) (x0 y : Cell) (size : Nat) (lazy : Bool) (all : List UInt8) (total : Nat) (ss : List (List UInt8)) (i : Nat) (H0 : AHeap) (m : Nat) (fr : AFrame) (H : AHeap) : Prop :=
  ∃ x5 xh zs k, k + m = nb size lazy all.length ∧ Fed H0 H p x0 x5 xh zs size lazy all total k ∧ (∃ s : Nat → AV, fr = [.c (.ptr p 0), s 1, s 2, s 3, s 4, .c x5, s 6, s 7, s 8, s 9, s 10, s 11, s 12, s 13, s 14, s 15, s 16, .c y, .c (.int .i64 (ss.length : Int)), .c (.int .i64 (i : Int)), s 20, s 21, s 22, s 23, s 24, s 25, s 26, s 27, s 28, s 29, s 30, s 31, s 32, s 33, s 34, s 35, s 36, s 37, s 38, s 39, s 40, s 41, s 42, s 43, s 44, s 45, s 46, s 47, s 48, s 49, s 50, s 51, s 52, s 53, s 54, s 55, s 56, s 57, s 58, s 59, s 60, s 61, s 62, s 63, s 64, s 65, s 66, s 67, s 68, s 69, s 70, s 71, s 72, s 73, s 74, s 75, s 76, s 77])

section
variable (fl : Nat) (H : AHeap) (p : Nat) (x y : Cell) (size : Nat) (lazy : Bool) (held : List UInt8) (total : Nat) (ss : List (List UInt8))

theorem AC_feed_Put (hF : FeedAt H p x size lazy held total) (hfl : fl ≤ p) (hfx : ∀ b, inX x b → fl ≤ b) (hy : Rd H y 1 (ss.map Cell.str)) (hyp : ¬ inX y p) (hyx : ∀ b, inX y b → ¬ inX x b)
    (h0 : 0 < size) (hs : size ≤ 65536) (hl : ss.length ≤ 1000000) (hb : held.length + ss.flatten.length ≤ 1000000000) (ht : total ≤ 1000000000) (hn : nb size lazy held.length = 0) :
    AC A fl F_feed_Feed_Put [.c (.ptr p 0), .c y] H (fun v H' => ∃ x' y' zs, v = .c y' ∧
      FeedAt H' p x' size lazy ((held ++ ss.flatten).drop (nb size lazy (held ++ ss.flatten).length * size)) (total + ss.flatten.length) ∧
      Chg (fun b => b = p ∨ inX x b) H H' ∧ (∀ b, inX x' b → H.length ≤ b) ∧ BB H.length H' y' zs (blks size (held ++ ss.flatten) (nb size lazy (held ++ ss.flatten).length)) ∧ (∀ b, inB y' zs b → ¬ inX x' b)) := by
  have yl : (ss.map Cell.str).length = ss.length := by simp
  have hp := hcells_own hF.1
  have hpl := hown_lt hF.1
  have e0 : ((size : Int) == 0) = false := by rw [beq_eq_false_iff_ne]; omega
  refine AC_enter t_feed_Feed_Put ?_; simp only [c_feed_Feed_Put, enterA, List.replicate, List.length_cons, List.length_nil, Nat.reduceAdd, Nat.reduceSub, List.cons_append, List.nil_append]
  (repeat (first | with_reducible refine thenQ_n ?_ | with_reducible refine blockQ_n ?_ | refine AW_skip ?_ | refine AW_seq ?_ | refine AW_ops ?_ | refine AW_blockS ?_ | refine AW_blockR ?_ | refine AW_blockD ?_ | refine AW_blockC ?_ | refine AO_nil ?_ | refine AW_draw ?_ | refine AW_draw3 ?_ | refine AW_blockD3 ?_ | refine AHd_nil ?_ | ((first | with_reducible apply AO_pre | with_reducible apply AHd_pre); focus (simp only [Sm, wantedA, execA, stepA, List.getElem?_cons_zero, List.getElem?_cons_succ, if_true, if_false, binA, binInt, unA, eqA, Option.map, eq_self, reduceCtorEq, ite_true, ite_false, fitsAll, CK.fits, fillA, AV.cells, writeN, readN, sliceCells, appendA, lenA, i64, loA, hiA, Nat.reduceAdd, Nat.reduceMul, Nat.reduceDiv, Nat.reduceSub, Nat.reduceLeDiff, Nat.reduceLT, Int.reduceLE, Int.reduceLT, foldA, maxA, minA, Int.reduceBEq, Int.reduceBNe, Int.reduceGT, Int.reduceGE, Int.reduceEq, Int.reduceNe, Int.reduceToNat, AOp.stops, ↓want_eq, ↓exec_lenX, hp, e0]; with_reducible rfl))))
  refine AW_cond (t := false) rfl (fun h => by cases h) fun _ => ?_
  (repeat (first | with_reducible refine thenQ_n ?_ | with_reducible refine blockQ_n ?_ | refine AW_skip ?_ | refine AW_seq ?_ | refine AW_ops ?_ | refine AW_blockS ?_ | refine AW_blockR ?_ | refine AW_blockD ?_ | refine AW_blockC ?_ | refine AO_nil ?_ | refine AW_draw ?_ | refine AW_draw3 ?_ | refine AW_blockD3 ?_ | refine AHd_nil ?_ | ((first | with_reducible apply AO_pre | with_reducible apply AHd_pre); focus (simp only [Sm, wantedA, execA, stepA, List.getElem?_cons_zero, List.getElem?_cons_succ, if_true, if_false, binA, binInt, unA, eqA, Option.map, eq_self, reduceCtorEq, ite_true, ite_false, fitsAll, CK.fits, fillA, AV.cells, writeN, readN, sliceCells, appendA, lenA, i64, loA, hiA, Nat.reduceAdd, Nat.reduceMul, Nat.reduceDiv, Nat.reduceSub, Nat.reduceLeDiff, Nat.reduceLT, Int.reduceLE, Int.reduceLT, foldA, maxA, minA, Int.reduceBEq, Int.reduceBNe, Int.reduceGT, Int.reduceGE, Int.reduceEq, Int.reduceNe, Int.reduceToNat, AOp.stops, ↓want_eq, ↓exec_lenX, hy.len1 _ yl]; with_reducible rfl))))
  refine AW_mid (fun e fr H' => e = .normal ∧ putI fl p x y size lazy held total ss H ss.length fr H') ?_ ?_
  · refine AW_block (AW_up (putI fl p x y size lazy held total ss H) ss.length ⟨.snil, x, [], ?_, stale _ _ rfl⟩ ?_)
    · simp only [List.take_zero, List.flatten_nil, List.append_nil, List.length_nil, Nat.add_zero, hn]
      exact ⟨by simpa using hF, Chg.refl _ _, fun b hb => .inl hb, BB.nil, fun b hb => by
        rcases hb with hb | ⟨z, hz, _⟩
        · exact absurd hb inX_snil
        · simp at hz, by simp, fun z hz => by simp at hz⟩
    rintro i fr H1 hi ⟨x5, xh, zs, hI, st, rfl⟩
    (repeat (first | with_reducible refine thenQ_n ?_ | with_reducible refine blockQ_n ?_ | refine AW_skip ?_ | refine AW_seq ?_ | refine AW_ops ?_ | refine AW_blockS ?_ | refine AW_blockR ?_ | refine AW_blockD ?_ | refine AW_blockC ?_ | refine AO_nil ?_ | refine AW_draw ?_ | refine AW_draw3 ?_ | refine AW_blockD3 ?_ | refine AHd_nil ?_ | ((first | with_reducible apply AO_pre | with_reducible apply AHd_pre); focus (simp only [Sm, wantedA, execA, stepA, List.getElem?_cons_zero, List.getElem?_cons_succ, if_true, if_false, binA, binInt, unA, eqA, Option.map, eq_self, reduceCtorEq, ite_true, ite_false, fitsAll, CK.fits, fillA, AV.cells, writeN, readN, sliceCells, appendA, lenA, i64, loA, hiA, Nat.reduceAdd, Nat.reduceMul, Nat.reduceDiv, Nat.reduceSub, Nat.reduceLeDiff, Nat.reduceLT, Int.reduceLE, Int.reduceLT, foldA, maxA, minA, Int.reduceBEq, Int.reduceBNe, Int.reduceGT, Int.reduceGE, Int.reduceEq, Int.reduceNe, Int.reduceToNat, AOp.stops, ↓want_eq, ↓exec_lenX]; with_reducible rfl))))
    refine AW_cond rfl ?_ ?_ <;> intro htt
    · have htt : (i : Int) < ss.length := of_decide_eq_true htt
      have hi2 : i < ss.length := by omega
      obtain ⟨w, hw⟩ : ∃ w, ss[i]? = some w := ⟨_, List.getElem?_eq_getElem hi2⟩
      have hyH1 : Rd H1 y 1 (ss.map Cell.str) := hy.chg hI.chg (fun b hb h => by rcases h with rfl | h; exact hyp hb; exact hyx b hb h)
      obtain ⟨u, o, full, rfl, hf, hg⟩ := hyH1.get (i := i) (by omega)
      have gx : full[o + i]? = some (.str w) := by rw [hg]; simp [hw]
      have hp1 := hcells_own hI.feed.1
      have hfe := flat_take hw
      have hwl : ((ss.take i).flatten.length + w.length) ≤ ss.flatten.length := by
        have h := congrArg List.flatten (List.take_append_drop (i + 1) ss)
        rw [List.flatten_append] at h
        have h := congrArg List.length h
        rw [List.length_append, hfe, List.length_append] at h; omega
      generalize hfa : (ss.take i).flatten = fa at *
      have ea : IntKind.i64.wrap (((total + fa.length : Nat) : Int) + (w.length : Int)) = ((total + fa.length + w.length : Nat) : Int) := i64_add (by omega)
      (repeat (first | with_reducible refine thenQ_n ?_ | with_reducible refine blockQ_n ?_ | refine AW_skip ?_ | refine AW_seq ?_ | refine AW_ops ?_ | refine AW_blockS ?_ | refine AW_blockR ?_ | refine AW_blockD ?_ | refine AW_blockC ?_ | refine AO_nil ?_ | refine AW_draw ?_ | refine AW_draw3 ?_ | refine AW_blockD3 ?_ | refine AHd_nil ?_ | ((first | with_reducible apply AO_pre | with_reducible apply AHd_pre); focus (simp only [Sm, wantedA, execA, stepA, List.getElem?_cons_zero, List.getElem?_cons_succ, if_true, if_false, binA, binInt, unA, eqA, Option.map, eq_self, reduceCtorEq, ite_true, ite_false, fitsAll, CK.fits, fillA, AV.cells, writeN, readN, sliceCells, appendA, lenA, i64, loA, hiA, Nat.reduceAdd, Nat.reduceMul, Nat.reduceDiv, Nat.reduceSub, Nat.reduceLeDiff, Nat.reduceLT, Int.reduceLE, Int.reduceLT, foldA, maxA, minA, Int.reduceBEq, Int.reduceBNe, Int.reduceGT, Int.reduceGE, Int.reduceEq, Int.reduceNe, Int.reduceToNat, AOp.stops, ↓want_eq, ↓exec_lenX, hf, gx, yl, htt, hp1, ea, ↓exec_storeX, storeX_own hI.feed.1 hfl (show 3 < 4 by omega)]; with_reducible rfl))))
      -- the total
      have hFa : FeedAt (H1.set p (.own [.int .i64 (size : Int), .bool lazy, xh, .int .i64 ((total + fa.length + w.length : Nat) : Int)])) p xh size lazy ((held ++ fa).drop (nb size lazy (held ++ fa).length * size)) (total + fa.length + w.length) := hI.feed.put hI.feed.2.1 hI.feed.2.2
      have cA : Chg (· = p) H1 (H1.set p (.own [.int .i64 (size : Int), .bool lazy, xh, .int .i64 ((total + fa.length + w.length : Nat) : Int)])) := Chg.set rfl
      generalize H1.set p (.own [.int .i64 (size : Int), .bool lazy, xh, .int .i64 ((total + fa.length + w.length : Nat) : Int)]) = H2 at *
      have hp2 := hcells_own hFa.1
      have hpx : ∀ b, inX xh b → b ≠ p := fun b hb e => hI.feed.2.2 (by rw [← e]; exact hb)
      have hlow : ∀ b, inX xh b → fl ≤ b := fun b hb => by
        rcases hI.hh b hb with h | h
        · exact hfx b h
        · omega
      (repeat (first | with_reducible refine thenQ_n ?_ | with_reducible refine blockQ_n ?_ | refine AW_skip ?_ | refine AW_seq ?_ | refine AW_ops ?_ | refine AW_blockS ?_ | refine AW_blockR ?_ | refine AW_blockD ?_ | refine AW_blockC ?_ | refine AO_nil ?_ | refine AW_draw ?_ | refine AW_draw3 ?_ | refine AW_blockD3 ?_ | refine AHd_nil ?_ | ((first | with_reducible apply AO_pre | with_reducible apply AHd_pre); focus (simp only [Sm, wantedA, execA, stepA, List.getElem?_cons_zero, List.getElem?_cons_succ, if_true, if_false, binA, binInt, unA, eqA, Option.map, eq_self, reduceCtorEq, ite_true, ite_false, fitsAll, CK.fits, fillA, AV.cells, writeN, readN, sliceCells, appendA, lenA, i64, loA, hiA, Nat.reduceAdd, Nat.reduceMul, Nat.reduceDiv, Nat.reduceSub, Nat.reduceLeDiff, Nat.reduceLT, Int.reduceLE, Int.reduceLT, foldA, maxA, minA, Int.reduceBEq, Int.reduceBNe, Int.reduceGT, Int.reduceGE, Int.reduceEq, Int.reduceNe, Int.reduceToNat, AOp.stops, ↓want_eq, ↓exec_lenX, hp2]; with_reducible rfl))))
      -- the bytes
      have hlen1 : (B8 ((held ++ fa).drop (nb size lazy (held ++ fa).length * size))).length ≤ held.length + fa.length := by rw [B8_length, List.length_drop, List.length_append]; omega
      refine AO_appendT (f := fl) (news := B8 w) (hFa.2.1.floor hlow) rfl rfl (by omega) (Nat.mod_one _) (Nat.le_refl _) (by have := hown_lt hFa.1; omega) (by have := B8_length (s := w); omega) rfl rfl ?_
      intro q' n' H3 hq' ho3 c3
      subst hq'
      have hpH2 := hown_lt hFa.1
      have hFp : hown H3 p = some [.int .i64 (size : Int), .bool lazy, xh, .int .i64 ((total + fa.length + w.length : Nat) : Int)] := c3.hown (fun h => hpx p h rfl) hFa.1
      have hp3 := hcells_own hFp
      rw [← B8_append] at ho3
      have hle : nb size lazy (held ++ fa).length * size ≤ (held ++ fa).length := nb_le h0
      have eall : held ++ fa ++ w = (held ++ fa) ++ w := rfl
      rw [← List.drop_append_of_le_length hle] at ho3
      have hq : H2.length ≠ p := by omega
      (repeat (first | with_reducible refine thenQ_n ?_ | with_reducible refine blockQ_n ?_ | refine AW_skip ?_ | refine AW_seq ?_ | refine AW_ops ?_ | refine AW_blockS ?_ | refine AW_blockR ?_ | refine AW_blockD ?_ | refine AW_blockC ?_ | refine AO_nil ?_ | refine AW_draw ?_ | refine AW_draw3 ?_ | refine AW_blockD3 ?_ | refine AHd_nil ?_ | ((first | with_reducible apply AO_pre | with_reducible apply AHd_pre); focus (simp only [Sm, wantedA, execA, stepA, List.getElem?_cons_zero, List.getElem?_cons_succ, if_true, if_false, binA, binInt, unA, eqA, Option.map, eq_self, reduceCtorEq, ite_true, ite_false, fitsAll, CK.fits, fillA, AV.cells, writeN, readN, sliceCells, appendA, lenA, i64, loA, hiA, Nat.reduceAdd, Nat.reduceMul, Nat.reduceDiv, Nat.reduceSub, Nat.reduceLeDiff, Nat.reduceLT, Int.reduceLE, Int.reduceLT, foldA, maxA, minA, Int.reduceBEq, Int.reduceBNe, Int.reduceGT, Int.reduceGE, Int.reduceEq, Int.reduceNe, Int.reduceToNat, AOp.stops, ↓want_eq, ↓exec_lenX, hp3, ↓exec_storeX, storeX_own hFp hfl (show 2 < 4 by omega)]; with_reducible rfl))))
      have hFb : FeedAt (H3.set p (.own [.int .i64 (size : Int), .bool lazy, .slc H2.length 0 n' 1, .int .i64 ((total + fa.length + w.length : Nat) : Int)])) p (.slc H2.length 0 n' 1) size lazy (((held ++ fa) ++ w).drop (nb size lazy (held ++ fa).length * size)) (total + fa.length + w.length) :=
        ⟨hown_set (hown_lt hFp), ((ho3.mono (Nat.zero_le _)).t).chg (Chg.set (S := (· = p)) rfl) (fun b hb e => hq (by rw [← inX_slc.mp hb, e])), fun h => hq (inX_slc.mp h).symm⟩
      have cB : Chg (fun b => b = p ∨ inX xh b) H1 (H3.set p (.own [.int .i64 (size : Int), .bool lazy, .slc H2.length 0 n' 1, .int .i64 ((total + fa.length + w.length : Nat) : Int)])) :=
        ((cA.mono (T := fun b => b = p ∨ inX xh b) fun b _ h => .inl h).trans c3 fun b _ h => .inr h).trans (Chg.set (S := (· = p)) rfl) fun b _ h => .inl h
      have hH2 : H1.length ≤ H2.length := cA.1
      generalize H3.set p (.own [.int .i64 (size : Int), .bool lazy, .slc H2.length 0 n' 1, .int .i64 ((total + fa.length + w.length : Nat) : Int)]) = H4 at *
      have hI4 : Fed H H4 p x x5 (.slc H2.length 0 n' 1) zs size lazy ((held ++ fa) ++ w) (total + fa.length + w.length) (nb size lazy (held ++ fa).length) := by
        refine ⟨hFb, hI.chg.trans cB fun b hb h => ?_, fun b hb => .inr (by rw [inX_slc.mp hb]; have := hI.chg.1; omega), ?_, fun b hb h => ?_, Nat.le_trans hle (by simp), hI.self⟩
        · rcases h with h | h
          · exact .inl h
          · rcases hI.hh b h with h | h
            · exact .inr h
            · omega
        · rw [blks_append hle]
          exact hI.out.chg cB fun b hb h => by
            rcases h with h | h
            · have := hI.out.le hb; omega
            · exact hI.apart b hb h
        · have := hI.out.lt hb
          rw [inX_slc.mp h] at this; omega
      have hmono : nb size lazy (held ++ fa).length ≤ nb size lazy ((held ++ fa) ++ w).length := nb_mono (by simp)
      have hall : ((held ++ fa) ++ w).length ≤ 1000000000 := by simp only [List.length_append]; omega
      have heq : held ++ (ss.take (i + 1)).flatten = (held ++ fa) ++ w := by rw [hfe]; simp
      have heq2 : total + (ss.take (i + 1)).flatten.length = total + fa.length + w.length := by rw [hfe]; simp; omega
      clear hI hFa hFb c3 cA cB hFp hp2 hp3 ho3 hf hp1 hp hlow hpx hg gx
      generalize hk0 : nb size lazy (held ++ fa).length = k0 at *
      generalize hA : (held ++ fa) ++ w = all at *
      generalize total + fa.length + w.length = tot at *
      refine AW_mid (fun e fr H' => e = .normal ∧ putJ fl p x (.slc u o ss.length 1) size lazy all tot ss i H 0 fr H') ?_ ?_
      · refine AW_block (AW_loopN (putJ fl p x (.slc u o ss.length 1) size lazy all tot ss i H) (nb size lazy all.length - k0) ⟨x5, _, zs, k0, by omega, hI4, stale _ _ rfl⟩ ?_)
        clear hI4 hmono hq hpH2 hle hlen1 H4 x5 xh zs H3 H2 hH2 H1 hyH1 n'
        rintro m fr H1 ⟨x5, xh, zs, k, hkm, hI, st, rfl⟩
        have hdl : (all.drop (k * size)).length = all.length - k * size := by rw [List.length_drop]
        have hpl1 := hown_lt hI.feed.1
        (repeat (first | with_reducible refine thenQ_n ?_ | with_reducible refine blockQ_n ?_ | refine AW_skip ?_ | refine AW_seq ?_ | refine AW_ops ?_ | refine AW_blockS ?_ | refine AW_blockR ?_ | refine AW_blockD ?_ | refine AW_blockC ?_ | refine AO_nil ?_ | refine AW_draw ?_ | refine AW_draw3 ?_ | refine AW_blockD3 ?_ | refine AHd_nil ?_ | ((first | with_reducible apply AO_pre | with_reducible apply AHd_pre); focus (simp only [Sm, wantedA, execA, stepA, List.getElem?_cons_zero, List.getElem?_cons_succ, if_true, if_false, binA, binInt, unA, eqA, Option.map, eq_self, reduceCtorEq, ite_true, ite_false, fitsAll, CK.fits, fillA, AV.cells, writeN, readN, sliceCells, appendA, lenA, i64, loA, hiA, Nat.reduceAdd, Nat.reduceMul, Nat.reduceDiv, Nat.reduceSub, Nat.reduceLeDiff, Nat.reduceLT, Int.reduceLE, Int.reduceLT, foldA, maxA, minA, Int.reduceBEq, Int.reduceBNe, Int.reduceGT, Int.reduceGE, Int.reduceEq, Int.reduceNe, Int.reduceToNat, AOp.stops, ↓want_eq, ↓exec_lenX]; with_reducible rfl))))
        refine AO_call rfl ((AC_feed_full H1 p xh size lazy _ tot hI.feed).floor (by omega)) ?_
        rintro v _ ⟨rfl, rfl⟩
        rw [hdl, nb_full h0 hI.le]
        (repeat (first | with_reducible refine thenQ_n ?_ | with_reducible refine blockQ_n ?_ | refine AW_skip ?_ | refine AW_seq ?_ | refine AW_ops ?_ | refine AW_blockS ?_ | refine AW_blockR ?_ | refine AW_blockD ?_ | refine AW_blockC ?_ | refine AO_nil ?_ | refine AW_draw ?_ | refine AW_draw3 ?_ | refine AW_blockD3 ?_ | refine AHd_nil ?_ | ((first | with_reducible apply AO_pre | with_reducible apply AHd_pre); focus (simp only [Sm, wantedA, execA, stepA, List.getElem?_cons_zero, List.getElem?_cons_succ, if_true, if_false, binA, binInt, unA, eqA, Option.map, eq_self, reduceCtorEq, ite_true, ite_false, fitsAll, CK.fits, fillA, AV.cells, writeN, readN, sliceCells, appendA, lenA, i64, loA, hiA, Nat.reduceAdd, Nat.reduceMul, Nat.reduceDiv, Nat.reduceSub, Nat.reduceLeDiff, Nat.reduceLT, Int.reduceLE, Int.reduceLT, foldA, maxA, minA, Int.reduceBEq, Int.reduceBNe, Int.reduceGT, Int.reduceGE, Int.reduceEq, Int.reduceNe, Int.reduceToNat, AOp.stops, ↓want_eq, ↓exec_lenX]; with_reducible rfl))))
        refine AW_cond rfl ?_ ?_ <;> intro hc
        · have hc : k < nb size lazy all.length := of_decide_eq_true hc
          have hk1 : (k + 1) * size ≤ all.length := Nat.le_trans (Nat.mul_le_mul_right size hc) (nb_le h0)
          have hks : (k + 1) * size = k * size + size := by rw [Nat.add_mul, Nat.one_mul]
          obtain ⟨d1, d2⟩ := drop_part hk1
          have hB : 0 < (B8 (all.drop (k * size))).length := by rw [B8_length, hdl]; omega
          obtain ⟨s, o', full', rfl, hs1, hs2, hs3⟩ := hI.feed.2.1.slc hB
          rw [B8_length, hdl] at hs2
          have hsub : Rd H1 (.slc s o' size 1) 1 (B8 (blk size all k)) := by
            have := hI.feed.2.1.rd.sub (i := 0) (j := size) (Nat.zero_le _) (by rw [B8_length, hdl]; omega)
            simp only [Nat.zero_mul, Nat.add_zero, Nat.sub_zero, List.drop_zero, Nat.mul_one] at this
            rw [← d1, show B8 ((all.drop (k * size)).take size) = (B8 (all.drop (k * size))).take size by simp [B8, List.map_take]]
            exact this
          have hdrop : OwnT 0 H1 (.slc s (o' + size) ((B8 (all.drop (k * size))).length - size) 1) 1 (B8 (all.drop ((k + 1) * size))) := by
            have := hI.feed.2.1.drop (k := size) (by rw [B8_length, hdl]; omega)
            rw [← d2, show B8 ((all.drop (k * size)).drop size) = (B8 (all.drop (k * size))).drop size by simp [B8, List.map_drop]]
            exact this
          have hbl : (blk size all k).length = size := by rw [← d1, List.length_take, hdl]; omega
          have bl8 : (B8 (blk size all k)).length = size := by rw [B8_length, hbl]
          have hp1 := hcells_own hI.feed.1
          have hs1' := hcells_own hs1
          have q1 : (size : Int) ≤ (((B8 (all.drop (k * size))).length : Nat) : Int) := by rw [B8_length, hdl]; omega
          have q2 : size ≤ (B8 (all.drop (k * size))).length := by rw [B8_length, hdl]; omega
          generalize (B8 (all.drop (k * size))).length = hn' at *
          (repeat (first | with_reducible refine thenQ_n ?_ | with_reducible refine blockQ_n ?_ | refine AW_skip ?_ | refine AW_seq ?_ | refine AW_ops ?_ | refine AW_blockS ?_ | refine AW_blockR ?_ | refine AW_blockD ?_ | refine AW_blockC ?_ | refine AO_nil ?_ | refine AW_draw ?_ | refine AW_draw3 ?_ | refine AW_blockD3 ?_ | refine AHd_nil ?_ | ((first | with_reducible apply AO_pre | with_reducible apply AHd_pre); focus (simp only [Sm, wantedA, execA, stepA, List.getElem?_cons_zero, List.getElem?_cons_succ, if_true, if_false, binA, binInt, unA, eqA, Option.map, eq_self, reduceCtorEq, ite_true, ite_false, fitsAll, CK.fits, fillA, AV.cells, writeN, readN, sliceCells, appendA, lenA, i64, loA, hiA, Nat.reduceAdd, Nat.reduceMul, Nat.reduceDiv, Nat.reduceSub, Nat.reduceLeDiff, Nat.reduceLT, Int.reduceLE, Int.reduceLT, foldA, maxA, minA, Int.reduceBEq, Int.reduceBNe, Int.reduceGT, Int.reduceGE, Int.reduceEq, Int.reduceNe, Int.reduceToNat, AOp.stops, ↓want_eq, ↓exec_lenX, hp1, hs1', q1, ↓exec_appNil, appNil_one hsub.cells bl8 (show size * 1 ≤ 140737488355328 by omega), Nat.sub_zero, Nat.zero_mul]; with_reducible rfl))))
          have cP : Chg none_ H1 (H1 ++ [.own (B8 (blk size all k))] ++ [.own [.slc H1.length 0 size 1]]) := by rw [List.append_assoc]; exact Chg.push _ _ _
          have hz0 : OwnT H.length (H1 ++ [.own (B8 (blk size all k))]) (.slc H1.length 0 size 1) 1 (B8 (blk size all k)) := OwnT.last hI.chg.1 (by rw [bl8, Nat.mul_one])
          have hz1 := hz0.chg (S := none_) (Chg.push _ _ [.own [.slc H1.length 0 size 1]]) (fun _ _ h => h)
          have hlast := cells_last (H := H1 ++ [.own (B8 (blk size all k))]) (cs := [.slc H1.length 0 size 1]) (n := 1) rfl
          have hout := hI.out.chg cP (fun _ _ h => h)
          have hFP := hI.feed.chg cP (fun h => h) (fun _ _ h => h)
          have hdP := hdrop.chg cP (fun _ _ h => h)
          have hzl : zs.length = k := by rw [hI.out.2.1, blks_length]
          have hPl : (H1 ++ [Blk.own (B8 (blk size all k))] ++ [Blk.own [Cell.slc H1.length 0 size 1]]).length = H1.length + 2 := by simp
          have hkn : k ≤ 1000000000 := by have := Nat.le_mul_of_pos_right k h0; have := hI.le; omega
          generalize hHP : H1 ++ [Blk.own (B8 (blk size all k))] ++ [Blk.own [Cell.slc H1.length 0 size 1]] = HP at *
          refine AO_appendT (f := H.length) (news := [.slc H1.length 0 size 1]) hout.1 ?_ rfl (by omega) (Nat.mod_one _) (by omega) (by have := hI.chg.1; omega) (by rw [hzl]; simp; omega) rfl rfl ?_
          · show sliceCells HP 1 (.c (.slc _ 0 1 1)) = _
            simpa using hlast
          intro q' n2 H2 hq' ho2 c2
          subst hq'
          have hpo : ¬ inX x5 p := fun h => by have := hout.1.le h; omega
          have hF2 := hFP.chg c2 hpo (fun b hb h => hI.apart b (.inl h) hb)
          have hd2 := hdP.chg c2 (fun b hb h => hI.apart b (.inl h) (by rw [inX_slc] at hb ⊢; exact hb))
          have hs2' : hcells H2 s = some full' := hcells_own (c2.hown (fun h => hI.apart s (.inl h) (inX_slc.mpr rfl)) (cP.hown (fun h => h) hs1))
          have hp2 := hcells_own hF2.1
          have hz2 := hz1.chg c2 (fun b hb h => by rw [inX_slc.mp hb] at h; have := hI.out.lt (.inl h); omega)
          have hsne : s ≠ p := fun e => hI.feed.2.2 (inX_slc.mpr e.symm)
          have hsl : s < H1.length := hown_lt hs1
          (repeat (first | with_reducible refine thenQ_n ?_ | with_reducible refine blockQ_n ?_ | refine AW_skip ?_ | refine AW_seq ?_ | refine AW_ops ?_ | refine AW_blockS ?_ | refine AW_blockR ?_ | refine AW_blockD ?_ | refine AW_blockC ?_ | refine AO_nil ?_ | refine AW_draw ?_ | refine AW_draw3 ?_ | refine AW_blockD3 ?_ | refine AHd_nil ?_ | ((first | with_reducible apply AO_pre | with_reducible apply AHd_pre); focus (simp only [Sm, wantedA, execA, stepA, List.getElem?_cons_zero, List.getElem?_cons_succ, if_true, if_false, binA, binInt, unA, eqA, Option.map, eq_self, reduceCtorEq, ite_true, ite_false, fitsAll, CK.fits, fillA, AV.cells, writeN, readN, sliceCells, appendA, lenA, i64, loA, hiA, Nat.reduceAdd, Nat.reduceMul, Nat.reduceDiv, Nat.reduceSub, Nat.reduceLeDiff, Nat.reduceLT, Int.reduceLE, Int.reduceLT, foldA, maxA, minA, Int.reduceBEq, Int.reduceBNe, Int.reduceGT, Int.reduceGE, Int.reduceEq, Int.reduceNe, Int.reduceToNat, AOp.stops, ↓want_eq, ↓exec_lenX, hp2, hs2', q2, Nat.le_refl, ↓exec_storeX, storeX_own hF2.1 hfl (show 2 < 4 by omega)]; with_reducible rfl))))
          have cS : Chg (· = p) H2 (H2.set p (.own [.int .i64 (size : Int), .bool lazy, .slc s (o' + size) (hn' - size) 1, .int .i64 (tot : Int)])) := Chg.set rfl
          have hF3 := hF2.put (total' := tot) hd2 (fun h => hsne (inX_slc.mp h).symm)
          generalize H2.set p (.own [.int .i64 (size : Int), .bool lazy, .slc s (o' + size) (hn' - size) 1, .int .i64 (tot : Int)]) = H3 at *
          have c13 : Chg (fun b => b = p ∨ inX x5 b) H1 H3 := (((cP.mono (T := fun b => b = p ∨ inX x5 b) fun _ _ h => h.elim).trans c2 fun _ _ h => .inr h).trans cS fun _ _ h => .inl h)
          refine ⟨m - 1, by omega, _, _, zs ++ [.slc H1.length 0 size 1], k + 1, by omega, ⟨hF3, ?_, ?_, ?_, ?_, hk1, ?_⟩, stale _ _ rfl⟩
          · refine hI.chg.trans c13 fun b hb h => ?_
            rcases h with h | h
            · exact .inl h
            · have := hI.out.le (.inl h); omega
          · intro b hb
            exact hI.hh b (by rw [inX_slc] at hb ⊢; exact hb)
          · rw [blks_succ]
            refine BB.snoc (fun j z w h1 h2 => ?_) hI.out.2.1 ?_ ?_
            · have hz := hI.out.2.2 j z w h1 h2
              refine ((hz.chg cP (fun _ _ h => h)).chg c2 (hI.self z (List.mem_of_getElem? h1))).chg cS fun b hb e => ?_
              have := hz.le hb; omega
            · exact ho2.t.chg cS fun b hb e => by rw [inX_slc.mp hb] at e; omega
            · exact hz2.chg cS fun b hb e => by rw [inX_slc.mp hb] at e; have := hI.chg.1; omega
          · intro b hb h
            rw [inX_slc.mp h] at hb
            rcases hb with hb | ⟨z, hz, hb⟩
            · have := inX_slc.mp hb; omega
            · rcases List.mem_append.mp hz with hz | hz
              · exact hI.apart s (.inr ⟨z, hz, hb⟩) (inX_slc.mpr rfl)
              · rw [List.mem_singleton.mp hz] at hb
                have := inX_slc.mp hb; omega
          · intro z hz b hb h
            rw [inX_slc.mp h] at hb
            rcases List.mem_append.mp hz with hz | hz
            · have := hI.out.lt (.inr ⟨z, hz, hb⟩); omega
            · rw [List.mem_singleton.mp hz] at hb
              have := inX_slc.mp hb; omega
        · have hc : ¬ k < nb size lazy all.length := of_decide_eq_false hc
          obtain rfl : m = 0 := by omega
          exact AW_exit ⟨rfl, x5, xh, zs, k, hkm, hI, stale _ _ rfl⟩
      rintro e fr H5 ⟨rfl, x5', xh', zs', k, hkm, hI5, st, rfl⟩
      (repeat (first | with_reducible refine thenQ_n ?_ | with_reducible refine blockQ_n ?_ | refine AW_skip ?_ | refine AW_seq ?_ | refine AW_ops ?_ | refine AW_blockS ?_ | refine AW_blockR ?_ | refine AW_blockD ?_ | refine AW_blockC ?_ | refine AO_nil ?_ | refine AW_draw ?_ | refine AW_draw3 ?_ | refine AW_blockD3 ?_ | refine AHd_nil ?_ | ((first | with_reducible apply AO_pre | with_reducible apply AHd_pre); focus (simp only [Sm, wantedA, execA, stepA, List.getElem?_cons_zero, List.getElem?_cons_succ, if_true, if_false, binA, binInt, unA, eqA, Option.map, eq_self, reduceCtorEq, ite_true, ite_false, fitsAll, CK.fits, fillA, AV.cells, writeN, readN, sliceCells, appendA, lenA, i64, loA, hiA, Nat.reduceAdd, Nat.reduceMul, Nat.reduceDiv, Nat.reduceSub, Nat.reduceLeDiff, Nat.reduceLT, Int.reduceLE, Int.reduceLT, foldA, maxA, minA, Int.reduceBEq, Int.reduceBNe, Int.reduceGT, Int.reduceGE, Int.reduceEq, Int.reduceNe, Int.reduceToNat, AOp.stops, ↓want_eq, ↓exec_lenX, i64_succ (show i < 9223372036854775807 by omega)]; with_reducible rfl))))
      refine ⟨hi2, x5', xh', zs', ?_, stale _ _ (by rw [yl]; rfl)⟩
      rw [heq, heq2, ← hkm]; exact hI5
    · obtain rfl : i = ss.length := by have : ¬ (i : Int) < ss.length := of_decide_eq_false htt; omega
      exact AW_exit ⟨rfl, x5, xh, zs, hI, stale _ _ rfl⟩
  rintro e fr H5 ⟨rfl, x5, xh, zs, hI, st, rfl⟩
  rw [List.take_length] at hI
  have hlen2 : (held ++ ss.flatten).length ≤ 1000000000 := by rw [List.length_append]; omega
  generalize held ++ ss.flatten = all at *
  have hfeed := hI.feed
  have hp5 := hcells_own hfeed.1
  have hdl : (all.drop (nb size lazy all.length * size)).length ≤ 1000000000 := by rw [List.length_drop]; omega
  generalize hrest : all.drop (nb size lazy all.length * size) = rest at *
  have hp6 := hcells_app (l := [Blk.own (B8 rest)]) hp5
  have ho6 := hown_app (l := [Blk.own (B8 rest)]) hfeed.1
  have hpl5 := hown_lt hfeed.1
  (repeat (first | with_reducible refine thenQ_n ?_ | with_reducible refine blockQ_n ?_ | refine AW_skip ?_ | refine AW_seq ?_ | refine AW_ops ?_ | refine AW_blockS ?_ | refine AW_blockR ?_ | refine AW_blockD ?_ | refine AW_blockC ?_ | refine AO_nil ?_ | refine AW_draw ?_ | refine AW_draw3 ?_ | refine AW_blockD3 ?_ | refine AHd_nil ?_ | ((first | with_reducible apply AO_pre | with_reducible apply AHd_pre); focus (simp only [Sm, wantedA, execA, stepA, List.getElem?_cons_zero, List.getElem?_cons_succ, if_true, if_false, binA, binInt, unA, eqA, Option.map, eq_self, reduceCtorEq, ite_true, ite_false, fitsAll, CK.fits, fillA, AV.cells, writeN, readN, sliceCells, appendA, lenA, i64, loA, hiA, Nat.reduceAdd, Nat.reduceMul, Nat.reduceDiv, Nat.reduceSub, Nat.reduceLeDiff, Nat.reduceLT, Int.reduceLE, Int.reduceLT, foldA, maxA, minA, Int.reduceBEq, Int.reduceBNe, Int.reduceGT, Int.reduceGE, Int.reduceEq, Int.reduceNe, Int.reduceToNat, AOp.stops, ↓want_eq, ↓exec_lenX, hp5, ↓exec_appNil, appNil_one hfeed.2.1.rd.cells B8_length (show rest.length * 1 ≤ 140737488355328 by omega), hp6, ↓exec_storeX, storeX_own ho6 hfl (show 2 < 4 by omega)]; with_reducible rfl))))
  refine AW_ret ⟨_, rfl, .slc H5.length 0 rest.length 1, x5, zs, rfl, ?_, ?_, ?_, ?_, ?_⟩
  · have hx : OwnT 0 (H5 ++ [Blk.own (B8 rest)]) (.slc H5.length 0 rest.length 1) 1 (B8 rest) := OwnT.last (Nat.zero_le _) (by rw [B8_length, Nat.mul_one])
    exact (hfeed.chg (S := none_) (Chg.push _ _ _) (fun h => h) (fun _ _ h => h)).put hx (fun h => by have := inX_slc.mp h; omega)
  · refine (hI.chg.trans (Chg.push none_ _ _) fun _ _ h => h.elim).trans (Chg.set (S := (· = p)) rfl) fun _ _ h => .inl h
  · intro b hb
    rw [inX_slc.mp hb]; exact hI.chg.1
  · refine (hI.out.chg (S := none_) (Chg.push _ _ _) (fun _ _ h => h)).chg (Chg.set (S := (· = p)) rfl) fun b hb e => ?_
    have := hI.out.le hb; omega
  · intro b hb h
    have := hI.out.lt hb
    rw [inX_slc.mp h] at this; omega
end

theorem AC_feed_Copy (H : AHeap) (p : Nat) (x : Cell) (size : Nat) (lazy : Bool) (held : List UInt8) (total : Nat) (hF : FeedAt H p x size lazy held total) (hb : held.length ≤ 100000000000) :
    AC A H.length F_feed_Feed_Copy [.c (.ptr p 0)] H (fun v H' => ∃ q, v = .c (.ptr q 0) ∧ H.length ≤ q ∧ ∃ x', FeedAt H' q x' size lazy held total ∧ ∀ b, inX x' b → H.length ≤ b) := by
  have hp := hcells_own hF.1
  have hpl := hown_lt hF.1
  have r1 : readN H p 0 4 = some [.int .i64 (size : Int), .bool lazy, x, .int .i64 (total : Int)] := by simp only [readN, hp]; rfl
  refine AC_enter t_feed_Feed_Copy ?_; simp only [c_feed_Feed_Copy, enterA, List.replicate, List.length_cons, List.length_nil, Nat.reduceAdd, Nat.reduceSub, List.cons_append, List.nil_append]
  (repeat (first | with_reducible refine thenQ_n ?_ | with_reducible refine blockQ_n ?_ | refine AW_skip ?_ | refine AW_seq ?_ | refine AW_ops ?_ | refine AW_blockS ?_ | refine AW_blockR ?_ | refine AW_blockD ?_ | refine AW_blockC ?_ | refine AO_nil ?_ | refine AW_draw ?_ | refine AW_draw3 ?_ | refine AW_blockD3 ?_ | refine AHd_nil ?_ | ((first | with_reducible apply AO_pre | with_reducible apply AHd_pre); focus (simp only [Sm, wantedA, execA, stepA, List.getElem?_cons_zero, List.getElem?_cons_succ, if_true, if_false, binA, binInt, unA, eqA, Option.map, eq_self, reduceCtorEq, ite_true, ite_false, fitsAll, CK.fits, fillA, AV.cells, writeN, readN, sliceCells, appendA, lenA, i64, loA, hiA, Nat.reduceAdd, Nat.reduceMul, Nat.reduceDiv, Nat.reduceSub, Nat.reduceLeDiff, Nat.reduceLT, Int.reduceLE, Int.reduceLT, foldA, maxA, minA, Int.reduceBEq, Int.reduceBNe, Int.reduceGT, Int.reduceGE, Int.reduceEq, Int.reduceNe, Int.reduceToNat, AOp.stops, ↓want_eq, ↓exec_lenX, hp]; with_reducible rfl))))
  refine AW_cond (t := false) rfl (fun h => by cases h) fun _ => ?_
  have n1 : hown (H ++ [Blk.own [.int .i64 0, .bool false, .snil, .int .i64 0]]) H.length = some [.int .i64 0, .bool false, .snil, .int .i64 0] := hown_last
  (repeat (first | with_reducible refine thenQ_n ?_ | with_reducible refine blockQ_n ?_ | refine AW_skip ?_ | refine AW_seq ?_ | refine AW_ops ?_ | refine AW_blockS ?_ | refine AW_blockR ?_ | refine AW_blockD ?_ | refine AW_blockC ?_ | refine AO_nil ?_ | refine AW_draw ?_ | refine AW_draw3 ?_ | refine AW_blockD3 ?_ | refine AHd_nil ?_ | ((first | with_reducible apply AO_pre | with_reducible apply AHd_pre); focus (simp only [Sm, wantedA, execA, stepA, List.getElem?_cons_zero, List.getElem?_cons_succ, if_true, if_false, binA, binInt, unA, eqA, Option.map, eq_self, reduceCtorEq, ite_true, ite_false, fitsAll, CK.fits, fillA, AV.cells, writeN, readN, sliceCells, appendA, lenA, i64, loA, hiA, Nat.reduceAdd, Nat.reduceMul, Nat.reduceDiv, Nat.reduceSub, Nat.reduceLeDiff, Nat.reduceLT, Int.reduceLE, Int.reduceLT, foldA, maxA, minA, Int.reduceBEq, Int.reduceBNe, Int.reduceGT, Int.reduceGE, Int.reduceEq, Int.reduceNe, Int.reduceToNat, AOp.stops, ↓want_eq, ↓exec_lenX, hp, ↓r1, ↓exec_storeN, storeN_all n1 (Nat.le_refl _) (show _ = 4 from rfl) (show List.length [Cell.int .i64 (size : Int), .bool lazy, x, .int .i64 (total : Int)] = 4 from rfl)]; with_reducible rfl))))
  have hset : (H ++ [Blk.own [.int .i64 0, .bool false, .snil, .int .i64 0]]).set H.length (Blk.own [.int .i64 (size : Int), .bool lazy, x, .int .i64 (total : Int)]) = H ++ [Blk.own [.int .i64 (size : Int), .bool lazy, x, .int .i64 (total : Int)]] := by
    rw [List.set_append_right _ _ (Nat.le_refl _), Nat.sub_self]; rfl
  rw [hset]
  have c1 : Chg none_ H (H ++ [Blk.own [.int .i64 (size : Int), .bool lazy, x, .int .i64 (total : Int)]]) := Chg.push _ _ _
  have hF1 := hF.chg c1 (fun h => h) (fun _ _ h => h)
  have hq : hown (H ++ [Blk.own [.int .i64 (size : Int), .bool lazy, x, .int .i64 (total : Int)]]) H.length = some _ := hown_last
  have hl1 : (H ++ [Blk.own [.int .i64 (size : Int), .bool lazy, x, .int .i64 (total : Int)]]).length = H.length + 1 := by simp
  generalize H ++ [Blk.own [.int .i64 (size : Int), .bool lazy, x, .int .i64 (total : Int)]] = H1 at *
  refine AO_call rfl ((AC_feed_Rest H1 p x size lazy held total hF1 hb).floor (by omega)) ?_
  rintro _ _ ⟨rfl, rfl⟩
  have hq2 := hown_app (l := [Blk.own (B8 held)]) hq
  have hx : OwnT 0 (H1 ++ [Blk.own (B8 held)]) (.slc H1.length 0 held.length 1) 1 (B8 held) := OwnT.last (Nat.zero_le _) (by rw [B8_length, Nat.mul_one])
  have hF2 : FeedAt (H1 ++ [Blk.own (B8 held)]) H.length (.slc H1.length 0 held.length 1) size lazy held total → True := fun _ => trivial
  (repeat (first | with_reducible refine thenQ_n ?_ | with_reducible refine blockQ_n ?_ | refine AW_skip ?_ | refine AW_seq ?_ | refine AW_ops ?_ | refine AW_blockS ?_ | refine AW_blockR ?_ | refine AW_blockD ?_ | refine AW_blockC ?_ | refine AO_nil ?_ | refine AW_draw ?_ | refine AW_draw3 ?_ | refine AW_blockD3 ?_ | refine AHd_nil ?_ | ((first | with_reducible apply AO_pre | with_reducible apply AHd_pre); focus (simp only [Sm, wantedA, execA, stepA, List.getElem?_cons_zero, List.getElem?_cons_succ, if_true, if_false, binA, binInt, unA, eqA, Option.map, eq_self, reduceCtorEq, ite_true, ite_false, fitsAll, CK.fits, fillA, AV.cells, writeN, readN, sliceCells, appendA, lenA, i64, loA, hiA, Nat.reduceAdd, Nat.reduceMul, Nat.reduceDiv, Nat.reduceSub, Nat.reduceLeDiff, Nat.reduceLT, Int.reduceLE, Int.reduceLT, foldA, maxA, minA, Int.reduceBEq, Int.reduceBNe, Int.reduceGT, Int.reduceGE, Int.reduceEq, Int.reduceNe, Int.reduceToNat, AOp.stops, ↓want_eq, ↓exec_lenX, hcells_own hq2, ↓exec_storeX, storeX_own hq2 (Nat.le_refl _) (show 2 < 4 by omega)]; with_reducible rfl))))
  refine AW_ret ⟨_, rfl, H.length, rfl, Nat.le_refl _, .slc H1.length 0 held.length 1, ⟨hown_set (hown_lt hq2), ?_, fun h => by have := inX_slc.mp h; omega⟩, fun b h => by rw [inX_slc.mp h]; omega⟩
  exact hx.chg (Chg.set (S := (· = H.length)) rfl) fun b h e => by rw [inX_slc.mp h] at e; omega
end PK

/- SHA-256: what is put behind, walked. -/
namespace PK
open Go PAbs
set_option linter.unusedSimpArgs false
set_option linter.unusedVariables false
set_option maxRecDepth 100000
set_option maxHeartbeats 4000000

theorem W8B8 {l : List Nat} (h : ∀ b ∈ l, b < 256) : W8 l = B8 (l.map UInt8.ofNat) := by
  simp only [W8, B8, List.map_map]
  apply List.map_congr_left
  intro b hb
  have := h b hb
  simp only [Function.comp_apply, UInt8.toNat_ofNat']
  rw [Nat.mod_eq_of_lt (by simpa using this)]
theorem zeros8_ (n : Nat) : (List.replicate n [Cell.int .u8 0]).flatten = W8 (List.replicate n 0) := by
  induction n with
  | zero => rfl
  | succ n ih => simp only [List.replicate_succ, List.flatten_cons, ih, W8, List.map_cons]; rfl
def zlen (n : Nat) : Nat := (119 - n % 64) % 64
def padN (n : Nat) : List Nat := 128 :: List.replicate (zlen n) 0 ++ beB 8 (n * 8 % 18446744073709551616)
def padB (n : Nat) : List UInt8 := (padN n).map UInt8.ofNat
theorem padN_lt (n : Nat) : ∀ b ∈ padN n, b < 256 := by
  intro b hb
  simp only [padN, List.cons_append, List.mem_cons, List.mem_append, List.mem_replicate, beB, List.mem_reverse] at hb
  rcases hb with rfl | ⟨_, rfl⟩ | hb
  · decide
  · decide
  · exact leB_lt hb
theorem padN_length (n : Nat) : (padN n).length = zlen n + 9 := by simp only [padN, List.length_append, List.length_cons, List.length_replicate, beB_length]
theorem padB_length (n : Nat) : (padB n).length = zlen n + 9 := by rw [padB, List.length_map, padN_length]

theorem AC_shaPad (H : AHeap) (n : Nat) (hn : n < 9223372036854775808) : AC A H.length F_sha_Pad [.c (.int .i64 (n : Int))] H (fun v H' => v = .c (.str (padB n))) := by
  have e0 : decide ((n : Int) < 0) = false := decide_eq_false (by omega)
  have hzl : zlen n < 64 := Nat.mod_lt _ (by decide)
  have e1 : (n : Int).tmod 64 = ((n % 64 : Nat) : Int) := by rw [Int.tmod_eq_emod_of_nonneg (by omega)]; omega
  have e2 : IntKind.i64.wrap (119 - ((n % 64 : Nat) : Int)) = ((119 - n % 64 : Nat) : Int) := by rw [i64_of (by omega) (by omega)]; omega
  have e3 : ((119 - n % 64 : Nat) : Int).tmod 64 = ((zlen n : Nat) : Int) := by rw [Int.tmod_eq_emod_of_nonneg (by omega)]; simp only [zlen]; omega
  have e4 : IntKind.i64.wrap (((zlen n : Nat) : Int) + 1) = ((zlen n + 1 : Nat) : Int) := by rw [i64_of (by omega) (by omega)]; omega
  have e5 : IntKind.u64.wrap (n : Int) = (n : Int) := u64_nat (by omega)
  have e6 : IntKind.u64.wrap ((n : Int) * 8) = ((n * 8 % 18446744073709551616 : Nat) : Int) := by rw [wrap64]; omega
  have z : ¬ ((64 : Int) = 0) := by omega
  have hw : n * 8 % 18446744073709551616 < 18446744073709551616 := Nat.mod_lt _ (by decide)
  have hpad : padN n = 128 :: List.replicate (zlen n) 0 ++ beB 8 (n * 8 % 18446744073709551616) := rfl
  generalize n * 8 % 18446744073709551616 = w at *
  have b1 : ((zlen n + 1 : Nat) : Int) ≤ 140737488355328 := by omega
  have b0 : (0 : Int) ≤ ((zlen n + 1 : Nat) : Int) := by omega
  have b2 : (0 : Int) < ((zlen n + 1 : Nat) : Int) := by omega
  have o1 : hown (H ++ [Blk.own (W8 (List.replicate (zlen n + 1) 0))]) H.length = some (W8 (List.replicate (zlen n + 1) 0)) := hown_last
  obtain ⟨H2, s2, o2, c2, l2⟩ := storeX_ex (o := 0) o1 (Nat.le_refl _) (by rw [W8_length, List.length_replicate]; omega) (.int .u8 128)
  have e7 : (W8 (List.replicate (zlen n + 1) 0)).set 0 (.int .u8 128) = W8 (128 :: List.replicate (zlen n) 0) := rfl
  rw [e7] at o2
  have hc1 := hcells_own o1
  refine AC_enter t_sha_Pad ?_; simp only [c_sha_Pad, enterA, List.replicate, List.length_cons, List.length_nil, Nat.reduceAdd, Nat.reduceSub, List.cons_append, List.nil_append]
  (repeat (first | with_reducible (first | refine thenQ_n ?_ | refine blockQ_n ?_ | refine thenQ_e ?_ | refine thenQ_r ?_ | refine blockQ_r ?_ | refine blockQ_s ?_ | refine blockQ_o rfl ?_) | refine AW_skip ?_ | refine AW_seq ?_ | refine AW_ops ?_ | refine AW_blockS ?_ | refine AW_blockR ?_ | refine AW_blockD ?_ | refine AW_blockC ?_ | refine AO_nil ?_ | refine AW_draw ?_ | refine AW_draw3 ?_ | refine AW_blockD3 ?_ | (refine AW_drawA ?_; simp only [atBlk, Sm]) | refine AHd_nil ?_ | with_reducible (first | refine AP_at ?_ | refine AHP_at ?_) | (with_reducible (first | apply AO_any | apply AHd_any | apply AP_go | apply AHP_go); focus (simp only [Sm, wantedA, execA, stepA, List.getElem?_cons_zero, List.getElem?_cons_succ, if_true, if_false, binA, binInt, unA, eqA, Option.map, eq_self, reduceCtorEq, ite_true, ite_false, fitsAll, CK.fits, fillA, AV.cells, writeN, sliceCells, appendA, lenA, i64, loA, hiA, Nat.reduceAdd, Nat.reduceMul, Nat.reduceDiv, Nat.reduceSub, Nat.reduceLeDiff, Nat.reduceLT, Int.reduceLE, Int.reduceLT, foldA, maxA, minA, Int.reduceBEq, Int.reduceBNe, Int.reduceGT, Int.reduceGE, Int.reduceEq, Int.reduceNe, Int.reduceToNat, AOp.stops, ↓want_eq, ↓exec_lenX, ↓exec_storeX, ↓exec_storeN, storeN_one, ↓exec_bsX, ↓exec_sliceX, ↓exec_copyX, ↓exec_appNil, ↓exec_carryX, Nat.sub_zero, rep_len, e0, z, e1, e2, e3, e4, b0, b1, b2, Int.le_refl, zeros8_, Int.mul_one, hc1, s2, Nat.zero_add, e5, e6]; with_reducible first | exact EqP.at_ | exact EqP.cont | exact EqP.hcont | exact EqP.gate | exact EqP.hgate)) | (refine AW_ift ?_ ?_; focus (simp only [Sm]; done)) | (refine AW_iff ?_ ?_; focus (simp only [Sm]; done))))
  have l2 : H2.length = H.length + 1 := by rw [l2]; simp
  have cx : Chg none_ H2 (H2 ++ [Blk.own [Cell.int .u64 (w : Int)]]) := Chg.push _ _ _
  have hy : Rd (H2 ++ [Blk.own [Cell.int .u64 (w : Int)]]) (.slc H2.length 0 1 1) 1 (W64w [w]) := (Own.one (f := 0) (Nat.zero_le _)).rd
  have o3 := cx.hown (fun h => h) o2
  have l3 : (H2 ++ [Blk.own [Cell.int .u64 (w : Int)]]).length = H2.length + 1 := by simp
  generalize H2 ++ [Blk.own [Cell.int .u64 (w : Int)]] = H3 at *
  refine AO_call rfl (((AC_Big64 H3 _ [w] hy (by simp)).kept (Nat.le_refl _)).floor (by omega)) ?_
  rintro v H4 ⟨⟨x, rfl, hx⟩, k4⟩
  have o4 : hown H4 H.length = some (W8 (128 :: List.replicate (zlen n) 0)) := by rw [k4.hown (by omega) (by omega)]; exact o3
  have fl1 : flat (beB 8) [w] [w].length = beB 8 w := rfl
  rw [fl1] at hx
  have hu : OwnT H.length H4 (.slc H.length 0 (zlen n + 1) 1) 1 (W8 (128 :: List.replicate (zlen n) 0)) := Own.t (.inr ⟨_, _, rfl, by simp [W8], Nat.le_refl _, o4⟩)
  refine AO_appendT (bytes := 1) (f := H.length) hu hx.rd.cells rfl (by omega) (Nat.mod_one _) (Nat.le_refl _) (by have := k4.1; omega) (by rw [W8_length, W8_length, beB_length]; simp; omega) rfl rfl ?_
  rintro q n' H5 hq h5 c5
  rw [← W8_append, ← hpad, W8B8 (padN_lt n)] at h5
  (repeat (first | with_reducible (first | refine thenQ_n ?_ | refine blockQ_n ?_ | refine thenQ_e ?_ | refine thenQ_r ?_ | refine blockQ_r ?_ | refine blockQ_s ?_ | refine blockQ_o rfl ?_) | refine AW_skip ?_ | refine AW_seq ?_ | refine AW_ops ?_ | refine AW_blockS ?_ | refine AW_blockR ?_ | refine AW_blockD ?_ | refine AW_blockC ?_ | refine AO_nil ?_ | refine AW_draw ?_ | refine AW_draw3 ?_ | refine AW_blockD3 ?_ | (refine AW_drawA ?_; simp only [atBlk, Sm]) | refine AHd_nil ?_ | with_reducible (first | refine AP_at ?_ | refine AHP_at ?_) | (with_reducible (first | apply AO_any | apply AHd_any | apply AP_go | apply AHP_go); focus (simp only [Sm, wantedA, execA, stepA, List.getElem?_cons_zero, List.getElem?_cons_succ, if_true, if_false, binA, binInt, unA, eqA, Option.map, eq_self, reduceCtorEq, ite_true, ite_false, fitsAll, CK.fits, fillA, AV.cells, writeN, sliceCells, appendA, lenA, i64, loA, hiA, Nat.reduceAdd, Nat.reduceMul, Nat.reduceDiv, Nat.reduceSub, Nat.reduceLeDiff, Nat.reduceLT, Int.reduceLE, Int.reduceLT, foldA, maxA, minA, Int.reduceBEq, Int.reduceBNe, Int.reduceGT, Int.reduceGE, Int.reduceEq, Int.reduceNe, Int.reduceToNat, AOp.stops, ↓want_eq, ↓exec_lenX, ↓exec_storeX, ↓exec_storeN, storeN_one, ↓exec_bsX, ↓exec_sliceX, ↓exec_copyX, ↓exec_appNil, ↓exec_carryX, Nat.sub_zero, rep_len, bsX_rd h5.rd]; with_reducible first | exact EqP.at_ | exact EqP.cont | exact EqP.hcont | exact EqP.gate | exact EqP.hgate)) | (refine AW_ift ?_ ?_; focus (simp only [Sm]; done)) | (refine AW_iff ?_ ?_; focus (simp only [Sm]; done))))
  exact AW_ret ⟨_, rfl, rfl⟩
end PK
