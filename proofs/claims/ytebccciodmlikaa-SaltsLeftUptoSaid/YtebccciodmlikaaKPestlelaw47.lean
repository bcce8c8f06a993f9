/- Package pestlelaw47 as code of the abstract machine. -/
import Derived.Test.YtebccciodmlikaaKF
namespace PK
open Go PAbs

noncomputable def c_pestlelaw47_SaltsDraw : AFn := AFn.mk 169 [.tmp 4]
  (.seq (.region
      [⟨some 4, .mv (.k (.c (.bool false))), none⟩])
  (.seq (.seq (.region
        [⟨some 25, .call F_pestlelaw47_awake [], none⟩,
          ⟨some 26, .un .not (.t 25), none⟩])
    (.cond (.t 26)
      (.seq (.region
          [⟨some 4, .mv (.k (.c (.bool false))), none⟩])
      (.ret))
      (.skip)))
  (.seq (.seq (.region
        [⟨some 27, .mv (.t 0), none⟩,
          ⟨some 28, .len false (.t 27), none⟩,
          ⟨some 29, .bin .gtr (.t 28) (.k (.c (.int .i64 20))), none⟩,
          ⟨some 30, .mv (.t 29), none⟩,
          ⟨some 31, .mv (.t 0), some (30, false)⟩,
          ⟨some 32, .call F_pestleref04_Bytes [.t 31], some (30, false)⟩,
          ⟨some 33, .bin .gtr (.t 32) (.k (.c (.int .i64 1000))), some (30, false)⟩,
          ⟨some 34, .pick (.t 30) (.k (.c (.bool true))) (.t 33), none⟩,
          ⟨some 35, .mv (.t 34), none⟩,
          ⟨some 36, .mv (.t 1), some (35, false)⟩,
          ⟨some 37, .len false (.t 36), some (35, false)⟩,
          ⟨some 38, .bin .gtr (.t 37) (.k (.c (.int .i64 50))), some (35, false)⟩,
          ⟨some 39, .pick (.t 35) (.k (.c (.bool true))) (.t 38), none⟩])
    (.cond (.t 39)
      (.seq (.region
          [⟨some 4, .mv (.k (.c (.bool true))), none⟩])
      (.ret))
      (.skip)))
  (.seq (.region
      [⟨some 40, .mv (.t 0), none⟩,
        ⟨some 41, .call F_pestleref04_Joined [.t 40], none⟩,
        ⟨some 5, .mv (.t 41), none⟩])
  (.seq (.region
      [⟨some 42, .mv (.t 0), none⟩,
        ⟨some 43, .call F_salts_New [.t 42], none⟩,
        ⟨some 6, .mv (.t 43), none⟩])
  (.seq (.region
      [⟨some 7, .mv (.k (.c (.int .i64 0))), none⟩])
  (.seq (.seq (.region
        [⟨some 44, .mv (.t 1), none⟩,
          ⟨some 45, .len false (.t 44), none⟩,
          ⟨some 46, .mv (.k (.c (.int .i64 0))), none⟩])
    (.block 0
      (.loop
        (.seq (.region
            [⟨some 47, .bin .lss (.t 46) (.t 45), none⟩])
        (.seq (.cond (.t 47)
            (.skip)
            (.exit 0))
        (.seq (.block 1
            (.seq (.region
                [⟨some 48, .idxSlc 1 (.t 44) (.t 46), none⟩,
                  ⟨some 49, .load1 (.t 48), none⟩,
                  ⟨some 9, .mv (.t 49), none⟩])
            (.seq (.seq (.region
                  [⟨some 50, .mv (.t 9), none⟩,
                    ⟨some 51, .len false (.t 50), none⟩,
                    ⟨some 52, .bin .gtr (.t 51) (.k (.c (.int .i64 20))), none⟩])
              (.cond (.t 52)
                (.seq (.region
                    [⟨some 4, .mv (.k (.c (.bool true))), none⟩])
                (.ret))
                (.skip)))
            (.seq (.region
                [⟨some 53, .mv (.t 6), none⟩,
                  ⟨some 54, .call F_salts_Source_Fork [.t 53], none⟩,
                  ⟨some 10, .mv (.t 54), none⟩])
            (.seq (.seq (.region
                  [⟨some 55, .mv (.t 9), none⟩,
                    ⟨some 56, .len false (.t 55), none⟩,
                    ⟨some 57, .bin .eql (.t 56) (.k (.c (.int .i64 1))), none⟩])
              (.cond (.t 57)
                (.seq (.region
                    [⟨some 59, .mv (.t 5), none⟩,
                      ⟨some 60, .mv (.t 7), none⟩,
                      ⟨some 61, .mv (.t 9), none⟩,
                      ⟨some 62, .idxSlc 1 (.t 61) (.k (.c (.int .i64 0))), none⟩,
                      ⟨some 63, .load1 (.t 62), none⟩,
                      ⟨some 64, .call F_pestleref47_Draw [.t 59, .t 60, .t 63], none⟩,
                      ⟨some 58, .mv (.t 64), none⟩,
                      ⟨some 65, .extract (.t 58) 0, none⟩,
                      ⟨some 66, .extract (.t 58) 1, none⟩,
                      ⟨some 67, .extract (.t 58) 2, none⟩,
                      ⟨some 11, .mv (.t 65), none⟩,
                      ⟨some 12, .mv (.t 66), none⟩,
                      ⟨some 13, .mv (.t 67), none⟩])
                (.seq (.region
                    [⟨some 68, .mv (.t 6), none⟩,
                      ⟨some 69, .mv (.t 9), none⟩,
                      ⟨some 70, .idxSlc 1 (.t 69) (.k (.c (.int .i64 0))), none⟩,
                      ⟨some 71, .load1 (.t 70), none⟩,
                      ⟨some 72, .call F_salts_Source_Can [.t 68, .t 71], none⟩,
                      ⟨some 14, .mv (.t 72), none⟩])
                (.seq (.region
                    [⟨some 74, .mv (.t 6), none⟩,
                      ⟨some 75, .mv (.t 9), none⟩,
                      ⟨some 76, .idxSlc 1 (.t 75) (.k (.c (.int .i64 0))), none⟩,
                      ⟨some 77, .load1 (.t 76), none⟩,
                      ⟨some 78, .call F_salts_Source_Draw [.t 74, .t 77], none⟩,
                      ⟨some 73, .mv (.t 78), none⟩,
                      ⟨some 79, .extract (.t 73) 0, none⟩,
                      ⟨some 80, .extract (.t 73) 1, none⟩,
                      ⟨some 15, .mv (.t 79), none⟩,
                      ⟨some 16, .mv (.t 80), none⟩])
                (.seq (.seq (.region
                      [⟨some 81, .mv (.t 15), none⟩,
                        ⟨some 82, .mv (.t 11), none⟩,
                        ⟨some 83, .bin .neq (.t 81) (.t 82), none⟩,
                        ⟨some 84, .mv (.t 83), none⟩,
                        ⟨some 85, .mv (.t 16), some (84, false)⟩,
                        ⟨some 86, .mv (.t 13), some (84, false)⟩,
                        ⟨some 87, .bin .neq (.t 85) (.t 86), some (84, false)⟩,
                        ⟨some 88, .pick (.t 84) (.k (.c (.bool true))) (.t 87), none⟩,
                        ⟨some 89, .mv (.t 88), none⟩,
                        ⟨some 90, .mv (.t 14), some (89, false)⟩,
                        ⟨some 91, .mv (.t 16), some (89, false)⟩,
                        ⟨some 92, .bin .neq (.t 90) (.t 91), some (89, false)⟩,
                        ⟨some 93, .pick (.t 89) (.k (.c (.bool true))) (.t 92), none⟩])
                  (.cond (.t 93)
                    (.seq (.region
                        [⟨some 4, .mv (.k (.c (.bool false))), none⟩])
                    (.ret))
                    (.skip)))
                (.region
                  [⟨some 94, .mv (.t 12), none⟩,
                    ⟨some 7, .mv (.t 94), none⟩])))))
                (.seq (.region
                    [⟨some 96, .mv (.t 5), none⟩,
                      ⟨some 97, .mv (.t 7), none⟩,
                      ⟨some 98, .mv (.t 9), none⟩,
                      ⟨some 99, .call F_pestleref47_Many [.t 96, .t 97, .t 98], none⟩,
                      ⟨some 95, .mv (.t 99), none⟩,
                      ⟨some 100, .extract (.t 95) 0, none⟩,
                      ⟨some 101, .extract (.t 95) 1, none⟩,
                      ⟨some 102, .extract (.t 95) 2, none⟩,
                      ⟨some 17, .mv (.t 100), none⟩,
                      ⟨some 18, .mv (.t 101), none⟩,
                      ⟨some 19, .mv (.t 102), none⟩])
                (.seq (.region
                    [⟨some 104, .mv (.t 6), none⟩,
                      ⟨some 105, .mv (.t 9), none⟩,
                      ⟨some 106, .call F_salts_Source_Many [.t 104, .t 105], none⟩,
                      ⟨some 103, .mv (.t 106), none⟩,
                      ⟨some 107, .extract (.t 103) 0, none⟩,
                      ⟨some 108, .extract (.t 103) 1, none⟩,
                      ⟨some 20, .mv (.t 107), none⟩,
                      ⟨some 21, .mv (.t 108), none⟩])
                (.seq (.seq (.region
                      [⟨some 109, .mv (.t 21), none⟩,
                        ⟨some 110, .mv (.t 19), none⟩,
                        ⟨some 111, .bin .neq (.t 109) (.t 110), none⟩,
                        ⟨some 112, .mv (.t 111), none⟩,
                        ⟨some 113, .mv (.t 20), some (112, false)⟩,
                        ⟨some 114, .len false (.t 113), some (112, false)⟩,
                        ⟨some 115, .mv (.t 17), some (112, false)⟩,
                        ⟨some 116, .len false (.t 115), some (112, false)⟩,
                        ⟨some 117, .bin .neq (.t 114) (.t 116), some (112, false)⟩,
                        ⟨some 118, .pick (.t 112) (.k (.c (.bool true))) (.t 117), none⟩])
                  (.cond (.t 118)
                    (.seq (.region
                        [⟨some 4, .mv (.k (.c (.bool false))), none⟩])
                    (.ret))
                    (.skip)))
                (.seq (.seq (.region
                      [⟨some 119, .mv (.t 20), none⟩,
                        ⟨some 120, .len false (.t 119), none⟩,
                        ⟨some 121, .mv (.k (.c (.int .i64 0))), none⟩])
                  (.block 2
                    (.loop
                      (.seq (.region
                          [⟨some 122, .bin .lss (.t 121) (.t 120), none⟩])
                      (.seq (.cond (.t 122)
                          (.skip)
                          (.exit 2))
                      (.seq (.block 3
                          (.seq (.region
                              [⟨some 123, .mv (.t 121), none⟩,
                                ⟨some 22, .mv (.t 123), none⟩])
                          (.seq (.draw
                              [⟨some 124, .mv (.t 20), none⟩,
                                ⟨some 125, .mv (.t 22), none⟩,
                                ⟨some 126, .idxSlc 1 (.t 124) (.t 125), none⟩,
                                ⟨some 127, .load1 (.t 126), none⟩,
                                ⟨some 128, .mv (.t 17), none⟩,
                                ⟨some 129, .mv (.t 22), none⟩,
                                ⟨some 130, .idxSlc 1 (.t 128) (.t 129), none⟩,
                                ⟨some 131, .load1 (.t 130), none⟩]
                              [⟨some 132, .bin .neq (.t 127) (.t 131), none⟩])
                          (.cond (.t 132)
                            (.seq (.region
                                [⟨some 4, .mv (.k (.c (.bool false))), none⟩])
                            (.ret))
                            (.skip)))))
                      (.region
                        [⟨some 133, .bin .add (.t 121) (.k (.c (.int .i64 1))), none⟩,
                          ⟨some 121, .mv (.t 133), none⟩])))))))
                (.region
                  [⟨some 134, .mv (.t 18), none⟩,
                    ⟨some 7, .mv (.t 134), none⟩])))))))
            (.seq (.seq (.region
                  [⟨some 135, .mv (.t 6), none⟩,
                    ⟨some 136, .call F_salts_Source_Drawn [.t 135], none⟩,
                    ⟨some 137, .mv (.t 7), none⟩,
                    ⟨some 138, .bin .neq (.t 136) (.t 137), none⟩,
                    ⟨some 139, .mv (.t 138), none⟩,
                    ⟨some 140, .mv (.t 6), some (139, false)⟩,
                    ⟨some 141, .call F_salts_Source_Left [.t 140], some (139, false)⟩,
                    ⟨some 142, .mv (.t 5), some (139, false)⟩,
                    ⟨some 143, .len true (.t 142), some (139, false)⟩,
                    ⟨some 144, .mv (.t 7), some (139, false)⟩,
                    ⟨some 145, .bin .sub (.t 143) (.t 144), some (139, false)⟩,
                    ⟨some 146, .bin .neq (.t 141) (.t 145), some (139, false)⟩,
                    ⟨some 147, .pick (.t 139) (.k (.c (.bool true))) (.t 146), none⟩])
              (.cond (.t 147)
                (.seq (.region
                    [⟨some 4, .mv (.k (.c (.bool false))), none⟩])
                (.ret))
                (.skip)))
            (.seq (.region
                [⟨some 149, .mv (.t 10), none⟩,
                  ⟨some 150, .mv (.t 10), none⟩,
                  ⟨some 151, .call F_salts_Source_Left [.t 150], none⟩,
                  ⟨some 152, .call F_salts_Source_Draw [.t 149, .t 151], none⟩,
                  ⟨some 148, .mv (.t 152), none⟩,
                  ⟨some 153, .extract (.t 148) 0, none⟩,
                  ⟨some 154, .extract (.t 148) 1, none⟩,
                  ⟨some 23, .mv (.t 153), none⟩,
                  ⟨some 24, .mv (.t 154), none⟩])
            (.seq (.region
                [⟨some 155, .mv (.t 24), none⟩,
                  ⟨some 156, .bin .neq (.t 155) (.k (.c (.int .i64 0))), none⟩,
                  ⟨some 157, .mv (.t 156), none⟩,
                  ⟨some 158, .mv (.t 23), some (157, false)⟩,
                  ⟨some 159, .mv (.t 5), some (157, false)⟩,
                  ⟨some 160, .mv (.t 5), some (157, false)⟩,
                  ⟨some 161, .len true (.t 160), some (157, false)⟩,
                  ⟨some 162, .mv (.t 23), some (157, false)⟩,
                  ⟨some 163, .len true (.t 162), some (157, false)⟩,
                  ⟨some 164, .bin .sub (.t 161) (.t 163), some (157, false)⟩,
                  ⟨some 165, .sliceStr (.t 159) (some (.t 164)) none, some (157, false)⟩,
                  ⟨some 166, .bin .neq (.t 158) (.t 165), some (157, false)⟩,
                  ⟨some 167, .pick (.t 157) (.k (.c (.bool true))) (.t 166), none⟩])
            (.cond (.t 167)
              (.seq (.region
                  [⟨some 4, .mv (.k (.c (.bool false))), none⟩])
              (.ret))
              (.skip))))))))))
        (.region
          [⟨some 168, .bin .add (.t 46) (.k (.c (.int .i64 1))), none⟩,
            ⟨some 46, .mv (.t 168), none⟩])))))))
  (.seq (.region
      [⟨some 4, .mv (.k (.c (.bool true))), none⟩])
  (.ret)))))))))
theorem t_pestlelaw47_SaltsDraw : A F_pestlelaw47_SaltsDraw = some c_pestlelaw47_SaltsDraw := by kernel_rfl

noncomputable def c_pestlelaw47_SaltsLeft : AFn := AFn.mk 105 [.tmp 4]
  (.seq (.region
      [⟨some 4, .mv (.k (.c (.bool false))), none⟩])
  (.seq (.seq (.region
        [⟨some 16, .call F_pestlelaw47_awake [], none⟩,
          ⟨some 17, .un .not (.t 16), none⟩])
    (.cond (.t 17)
      (.seq (.region
          [⟨some 4, .mv (.k (.c (.bool false))), none⟩])
      (.ret))
      (.skip)))
  (.seq (.region
      [⟨some 5, .mv (.k (.c (.pnil))), none⟩])
  (.seq (.region
      [⟨some 19, .mv (.t 5), none⟩,
        ⟨some 20, .call F_salts_Source_Draw [.t 19, .k (.c (.int .i64 0))], none⟩,
        ⟨some 18, .mv (.t 20), none⟩,
        ⟨some 21, .extract (.t 18) 0, none⟩,
        ⟨some 22, .extract (.t 18) 1, none⟩,
        ⟨some 6, .mv (.t 21), none⟩,
        ⟨some 7, .mv (.t 22), none⟩])
  (.seq (.region
      [⟨some 24, .mv (.t 5), none⟩,
        ⟨some 25, .buildSlice ([.int .i64 0]) 1 1 [(0, 1, .k (.c (.int .i64 0)))], none⟩,
        ⟨some 26, .call F_salts_Source_Many [.t 24, .t 25], none⟩,
        ⟨some 23, .mv (.t 26), none⟩,
        ⟨some 27, .extract (.t 23) 0, none⟩,
        ⟨some 28, .extract (.t 23) 1, none⟩,
        ⟨some 8, .mv (.t 27), none⟩,
        ⟨some 9, .mv (.t 28), none⟩])
  (.seq (.seq (.region
        [⟨some 29, .mv (.t 7), none⟩,
          ⟨some 30, .bin .neq (.t 29) (.k (.c (.int .i64 11))), none⟩,
          ⟨some 31, .mv (.t 30), none⟩,
          ⟨some 32, .mv (.t 9), some (31, false)⟩,
          ⟨some 33, .bin .neq (.t 32) (.k (.c (.int .i64 11))), some (31, false)⟩,
          ⟨some 34, .pick (.t 31) (.k (.c (.bool true))) (.t 33), none⟩,
          ⟨some 35, .mv (.t 34), none⟩,
          ⟨some 36, .mv (.t 5), some (35, false)⟩,
          ⟨some 37, .call F_salts_Source_Left [.t 36], some (35, false)⟩,
          ⟨some 38, .mv (.t 5), some (35, false)⟩,
          ⟨some 39, .call F_salts_Source_Drawn [.t 38], some (35, false)⟩,
          ⟨some 40, .bin .add (.t 37) (.t 39), some (35, false)⟩,
          ⟨some 41, .bin .neq (.t 40) (.k (.c (.int .i64 0))), some (35, false)⟩,
          ⟨some 42, .pick (.t 35) (.k (.c (.bool true))) (.t 41), none⟩,
          ⟨some 43, .mv (.t 42), none⟩,
          ⟨some 44, .mv (.t 5), some (43, false)⟩,
          ⟨some 45, .call F_salts_Source_Fork [.t 44], some (43, false)⟩,
          ⟨some 46, .eq true .ptr (.t 45) (.k (.c (.pnil))), some (43, false)⟩,
          ⟨some 47, .pick (.t 43) (.k (.c (.bool true))) (.t 46), none⟩,
          ⟨some 48, .mv (.t 47), none⟩,
          ⟨some 49, .mv (.t 5), some (48, false)⟩,
          ⟨some 50, .call F_salts_Source_Can [.t 49, .k (.c (.int .i64 0))], some (48, false)⟩,
          ⟨some 51, .bin .neq (.t 50) (.k (.c (.int .i64 11))), some (48, false)⟩,
          ⟨some 52, .pick (.t 48) (.k (.c (.bool true))) (.t 51), none⟩])
    (.cond (.t 52)
      (.seq (.region
          [⟨some 4, .mv (.k (.c (.bool false))), none⟩])
      (.ret))
      (.skip)))
  (.seq (.seq (.region
        [⟨some 53, .mv (.t 0), none⟩,
          ⟨some 54, .len false (.t 53), none⟩,
          ⟨some 55, .bin .gtr (.t 54) (.k (.c (.int .i64 20))), none⟩,
          ⟨some 56, .mv (.t 55), none⟩,
          ⟨some 57, .mv (.t 0), some (56, false)⟩,
          ⟨some 58, .call F_pestleref04_Bytes [.t 57], some (56, false)⟩,
          ⟨some 59, .bin .gtr (.t 58) (.k (.c (.int .i64 1000))), some (56, false)⟩,
          ⟨some 60, .pick (.t 56) (.k (.c (.bool true))) (.t 59), none⟩])
    (.cond (.t 60)
      (.seq (.region
          [⟨some 4, .mv (.k (.c (.bool true))), none⟩])
      (.ret))
      (.skip)))
  (.seq (.region
      [⟨some 61, .mv (.t 0), none⟩,
        ⟨some 62, .call F_salts_New [.t 61], none⟩,
        ⟨some 10, .mv (.t 62), none⟩])
  (.seq (.region
      [⟨some 63, .mv (.t 0), none⟩,
        ⟨some 64, .call F_pestleref04_Joined [.t 63], none⟩,
        ⟨some 11, .mv (.t 64), none⟩])
  (.seq (.region
      [⟨some 66, .mv (.t 10), none⟩,
        ⟨some 67, .mv (.t 1), none⟩,
        ⟨some 68, .call F_salts_Source_Draw [.t 66, .t 67], none⟩,
        ⟨some 65, .mv (.t 68), none⟩,
        ⟨some 69, .extract (.t 65) 0, none⟩,
        ⟨some 70, .extract (.t 65) 1, none⟩,
        ⟨some 12, .mv (.t 69), none⟩,
        ⟨some 13, .mv (.t 70), none⟩])
  (.seq (.region
      [⟨some 72, .mv (.t 10), none⟩,
        ⟨some 73, .mv (.t 10), none⟩,
        ⟨some 74, .call F_salts_Source_Left [.t 73], none⟩,
        ⟨some 75, .call F_salts_Source_Draw [.t 72, .t 74], none⟩,
        ⟨some 71, .mv (.t 75), none⟩,
        ⟨some 76, .extract (.t 71) 0, none⟩,
        ⟨some 77, .extract (.t 71) 1, none⟩,
        ⟨some 14, .mv (.t 76), none⟩,
        ⟨some 15, .mv (.t 77), none⟩])
  (.seq (.seq (.region
        [⟨some 78, .mv (.t 13), none⟩,
          ⟨some 79, .bin .neq (.t 78) (.k (.c (.int .i64 0))), none⟩,
          ⟨some 80, .mv (.t 79), none⟩,
          ⟨some 81, .mv (.t 12), some (80, true)⟩,
          ⟨some 82, .bin .neq (.t 81) (.k (.c (.str []))), some (80, true)⟩,
          ⟨some 83, .pick (.t 80) (.t 82) (.k (.c (.bool false))), none⟩,
          ⟨some 84, .mv (.t 83), none⟩,
          ⟨some 85, .mv (.t 15), some (84, false)⟩,
          ⟨some 86, .bin .neq (.t 85) (.k (.c (.int .i64 0))), some (84, false)⟩,
          ⟨some 87, .pick (.t 84) (.k (.c (.bool true))) (.t 86), none⟩])
    (.cond (.t 87)
      (.seq (.region
          [⟨some 4, .mv (.k (.c (.bool false))), none⟩])
      (.ret))
      (.skip)))
  (.seq (.region
      [⟨some 88, .mv (.t 12), none⟩,
        ⟨some 89, .mv (.t 14), none⟩,
        ⟨some 90, .bin .add (.t 88) (.t 89), none⟩,
        ⟨some 91, .mv (.t 11), none⟩,
        ⟨some 92, .bin .eql (.t 90) (.t 91), none⟩,
        ⟨some 93, .mv (.t 92), none⟩,
        ⟨some 94, .mv (.t 10), some (93, true)⟩,
        ⟨some 95, .call F_salts_Source_Left [.t 94], some (93, true)⟩,
        ⟨some 96, .bin .eql (.t 95) (.k (.c (.int .i64 0))), some (93, true)⟩,
        ⟨some 97, .pick (.t 93) (.t 96) (.k (.c (.bool false))), none⟩,
        ⟨some 98, .mv (.t 97), none⟩,
        ⟨some 99, .mv (.t 10), some (98, true)⟩,
        ⟨some 100, .call F_salts_Source_Drawn [.t 99], some (98, true)⟩,
        ⟨some 101, .mv (.t 11), some (98, true)⟩,
        ⟨some 102, .len true (.t 101), some (98, true)⟩,
        ⟨some 103, .bin .eql (.t 100) (.t 102), some (98, true)⟩,
        ⟨some 104, .pick (.t 98) (.t 103) (.k (.c (.bool false))), none⟩,
        ⟨some 4, .mv (.t 104), none⟩])
  (.ret))))))))))))))
theorem t_pestlelaw47_SaltsLeft : A F_pestlelaw47_SaltsLeft = some c_pestlelaw47_SaltsLeft := by kernel_rfl

noncomputable def c_pestlelaw47_awake : AFn := AFn.mk 43 [.tmp 0]
  (.seq (.region
      [⟨some 0, .mv (.k (.c (.bool false))), none⟩])
  (.seq (.region
      [⟨some 8, .buildSlice ([.str [], .str []]) 1 2 [(0, 1, .k (.c (.str [97, 98]))), (1, 1, .k (.c (.str [99])))], none⟩,
        ⟨some 9, .call F_salts_New [.t 8], none⟩,
        ⟨some 1, .mv (.t 9), none⟩])
  (.seq (.region
      [⟨some 11, .mv (.t 1), none⟩,
        ⟨some 12, .call F_salts_Source_Draw [.t 11, .k (.c (.int .i64 2))], none⟩,
        ⟨some 10, .mv (.t 12), none⟩,
        ⟨some 13, .extract (.t 10) 0, none⟩,
        ⟨some 14, .extract (.t 10) 1, none⟩,
        ⟨some 2, .mv (.t 13), none⟩,
        ⟨some 3, .mv (.t 14), none⟩])
  (.seq (.region
      [⟨some 16, .mv (.t 1), none⟩,
        ⟨some 17, .call F_salts_Source_Draw [.t 16, .k (.c (.int .i64 2))], none⟩,
        ⟨some 15, .mv (.t 17), none⟩,
        ⟨some 18, .extract (.t 15) 0, none⟩,
        ⟨some 19, .extract (.t 15) 1, none⟩,
        ⟨some 4, .mv (.t 18), none⟩,
        ⟨some 5, .mv (.t 19), none⟩])
  (.seq (.region
      [⟨some 21, .mv (.t 1), none⟩,
        ⟨some 22, .call F_salts_Source_Draw [.t 21, .k (.c (.int .i64 1))], none⟩,
        ⟨some 20, .mv (.t 22), none⟩,
        ⟨some 23, .extract (.t 20) 0, none⟩,
        ⟨some 24, .extract (.t 20) 1, none⟩,
        ⟨some 6, .mv (.t 23), none⟩,
        ⟨some 7, .mv (.t 24), none⟩])
  (.seq (.region
      [⟨some 25, .mv (.t 2), none⟩,
        ⟨some 26, .bin .eql (.t 25) (.k (.c (.str [97, 98]))), none⟩,
        ⟨some 27, .mv (.t 26), none⟩,
        ⟨some 28, .mv (.t 3), some (27, true)⟩,
        ⟨some 29, .bin .eql (.t 28) (.k (.c (.int .i64 0))), some (27, true)⟩,
        ⟨some 30, .pick (.t 27) (.t 29) (.k (.c (.bool false))), none⟩,
        ⟨some 31, .mv (.t 30), none⟩,
        ⟨some 32, .mv (.t 5), some (31, true)⟩,
        ⟨some 33, .bin .eql (.t 32) (.k (.c (.int .i64 13))), some (31, true)⟩,
        ⟨some 34, .pick (.t 31) (.t 33) (.k (.c (.bool false))), none⟩,
        ⟨some 35, .mv (.t 34), none⟩,
        ⟨some 36, .mv (.t 6), some (35, true)⟩,
        ⟨some 37, .bin .eql (.t 36) (.k (.c (.str [99]))), some (35, true)⟩,
        ⟨some 38, .pick (.t 35) (.t 37) (.k (.c (.bool false))), none⟩,
        ⟨some 39, .mv (.t 38), none⟩,
        ⟨some 40, .mv (.t 7), some (39, true)⟩,
        ⟨some 41, .bin .eql (.t 40) (.k (.c (.int .i64 0))), some (39, true)⟩,
        ⟨some 42, .pick (.t 39) (.t 41) (.k (.c (.bool false))), none⟩,
        ⟨some 0, .mv (.t 42), none⟩])
  (.ret)))))))
theorem t_pestlelaw47_awake : A F_pestlelaw47_awake = some c_pestlelaw47_awake := by kernel_rfl
end PK
