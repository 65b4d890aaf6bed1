/- The tables of the program's functions and types for the machine of lists and tries. -/
import Derived.Test.YtgikimegikelkaaProg
import Derived.Test.YtgikimegikelkaaAb3
namespace Go.Proofs.Ytgikimegikelkaa.AbT
open Go Go.Proofs.Ytgikimegikelkaa.Ab Go.Proofs
set_option maxRecDepth 4000
noncomputable def fns : List (Nat × Func) := [(2, Try.f2), (3, Try.f3), (4, Try.f4), (5, Try.f5), (6, Try.f6), (7, Try.f7), (8, Try.f8), (9, Try.f9), (10, Try.f10), (11, Try.f11), (12, Try.f12), (13, Try.f13), (14, Try.f14), (15, Try.f15), (16, Try.f16), (17, Try.f17), (18, Try.f18), (19, Try.f19), (20, Try.f20), (21, Try.f21), (22, Try.f22), (23, Try.f23), (24, Try.f24), (25, Try.f25), (26, Try.f26), (27, Try.f27), (28, Try.f28), (29, Try.f29), (30, Try.f30), (31, Try.f31), (32, Try.f32), (33, Try.f33), (34, Try.f34), (35, Try.f35), (36, Try.f36), (37, Try.f37), (38, Try.f38), (39, Try.f39), (40, Try.f40), (41, Try.f41), (42, Try.f42), (43, Try.f43), (44, Try.f44), (45, Try.f45), (46, Try.f46), (47, Try.f47), (48, Try.f48), (49, Try.f49), (50, Try.f50), (51, Try.f51), (52, Try.f52), (53, Try.f53), (54, Try.f54), (55, Try.f55), (56, Try.f56), (57, Try.f57), (58, Try.f58), (59, Try.f59), (60, Try.f60), (61, Try.f61), (62, Try.f62), (63, Try.f63), (64, Try.f64), (65, Try.f65), (66, Try.f66), (67, Try.f67), (68, Try.f68), (69, Try.f69), (70, Try.f70), (71, Try.f71), (72, Try.f72), (73, Try.f73), (74, Try.f74), (75, Try.f75), (76, Try.f76), (77, Try.f77), (78, Try.f78), (79, Try.f79), (80, Try.f80), (81, Try.f81), (82, Try.f82), (83, Try.f83), (84, Try.f84), (85, Try.f85), (86, Try.f86), (87, Try.f87), (88, Try.f88), (89, Try.f89), (90, Try.f90), (91, Try.f91), (92, Try.f92), (93, Try.f93), (94, Try.f94), (95, Try.f95), (96, Try.f96), (97, Try.f97), (98, Try.f98), (99, Try.f99), (100, Try.f100), (101, Try.f101), (102, Try.f102), (103, Try.f103), (104, Try.f104), (105, Try.f105), (106, Try.f106), (107, Try.f107), (108, Try.f108), (109, Try.f109), (110, Try.f110), (111, Try.f111), (112, Try.f112), (113, Try.f113), (114, Try.f114), (115, Try.f115), (116, Try.f116), (117, Try.f117), (118, Try.f118), (119, Try.f119), (120, Try.f120), (121, Try.f121), (122, Try.f122), (123, Try.f123), (124, Try.f124), (125, Try.f125), (126, Try.f126), (127, Try.f127), (128, Try.f128), (129, Try.f129), (130, Try.f130), (131, Try.f131), (132, Try.f132), (133, Try.f133), (134, Try.f134), (135, Try.f135), (136, Try.f136), (137, Try.f137), (138, Try.f138), (139, Try.f139), (140, Try.f140), (141, Try.f141), (142, Try.f142), (143, Try.f143), (144, Try.f144), (145, Try.f145), (146, Try.f146), (147, Try.f147), (148, Try.f148), (149, Try.f149), (150, Try.f150), (151, Try.f151), (152, Try.f152), (153, Try.f153), (154, Try.f154)]
noncomputable def tys : List (Nat × (TypeDesc × TypeInfo)) := [(1, (Try.t1.desc, Try.t1)), (2, (Try.t2.desc, Try.t2)), (3, (Try.t3.desc, Try.t3)), (4, (Try.t4.desc, Try.t4)), (5, (Try.t5.desc, Try.t5)), (6, (Try.t5.desc, Try.t6)), (7, (Try.t7.desc, Try.t7)), (8, (Try.t7.desc, Try.t8)), (9, (Try.t9.desc, Try.t9)), (10, (Try.t9.desc, Try.t10)), (11, (Try.t9.desc, Try.t11)), (12, (Try.t12.desc, Try.t12)), (15, (Try.t15.desc, Try.t15)), (16, (Try.t16.desc, Try.t16)), (17, (Try.t17.desc, Try.t17)), (20, (Try.t20.desc, Try.t20)), (21, (Try.t21.desc, Try.t21)), (22, (Try.t22.desc, Try.t22)), (23, (Try.t23.desc, Try.t23)), (24, (Try.t23.desc, Try.t24)), (25, (Try.t25.desc, Try.t25)), (26, (Try.t26.desc, Try.t26)), (27, (Try.t27.desc, Try.t27)), (28, (Try.t28.desc, Try.t28)), (29, (Try.t3.desc, Try.t29)), (31, (Try.t31.desc, Try.t31)), (32, (Try.t32.desc, Try.t32)), (33, (Try.t32.desc, Try.t33)), (34, (Try.t34.desc, Try.t34)), (35, (Try.t35.desc, Try.t35)), (36, (Try.t36.desc, Try.t36)), (37, (Try.t37.desc, Try.t37)), (38, (Try.t38.desc, Try.t38)), (39, (Try.t39.desc, Try.t39)), (40, (Try.t40.desc, Try.t40)), (41, (Try.t41.desc, Try.t41)), (42, (Try.t42.desc, Try.t42)), (43, (Try.t43.desc, Try.t43)), (44, (Try.t44.desc, Try.t44)), (45, (Try.t45.desc, Try.t45)), (47, (Try.t47.desc, Try.t47)), (48, (Try.t48.desc, Try.t48)), (49, (Try.t48.desc, Try.t49)), (50, (Try.t50.desc, Try.t50)), (51, (Try.t51.desc, Try.t51)), (52, (Try.t52.desc, Try.t52)), (53, (Try.t53.desc, Try.t53)), (54, (Try.t54.desc, Try.t54)), (55, (Try.t55.desc, Try.t55)), (56, (Try.t56.desc, Try.t56)), (57, (Try.t57.desc, Try.t57)), (58, (Try.t58.desc, Try.t58)), (59, (Try.t59.desc, Try.t59)), (60, (Try.t60.desc, Try.t60)), (61, (Try.t61.desc, Try.t61)), (62, (Try.t62.desc, Try.t62)), (63, (Try.t62.desc, Try.t63)), (65, (Try.t65.desc, Try.t65)), (66, (Try.t66.desc, Try.t66)), (67, (Try.t67.desc, Try.t67)), (68, (Try.t68.desc, Try.t68)), (69, (Try.t69.desc, Try.t69)), (70, (Try.t70.desc, Try.t70)), (71, (Try.t71.desc, Try.t71)), (72, (Try.t71.desc, Try.t72)), (73, (Try.t73.desc, Try.t73)), (74, (Try.t74.desc, Try.t74)), (75, (Try.t75.desc, Try.t75)), (76, (Try.t76.desc, Try.t76)), (77, (Try.t77.desc, Try.t77)), (78, (Try.t78.desc, Try.t78)), (79, (Try.t79.desc, Try.t79)), (80, (Try.t79.desc, Try.t80)), (81, (Try.t81.desc, Try.t81)), (82, (Try.t82.desc, Try.t82)), (84, (Try.t84.desc, Try.t84)), (85, (Try.t85.desc, Try.t85)), (86, (Try.t85.desc, Try.t86)), (87, (Try.t87.desc, Try.t87)), (88, (Try.t88.desc, Try.t88)), (89, (Try.t89.desc, Try.t89)), (90, (Try.t90.desc, Try.t90)), (91, (Try.t91.desc, Try.t91)), (92, (Try.t92.desc, Try.t92)), (93, (Try.t93.desc, Try.t93)), (94, (Try.t94.desc, Try.t94)), (96, (Try.t96.desc, Try.t96)), (97, (Try.t97.desc, Try.t97)), (98, (Try.t97.desc, Try.t98)), (99, (Try.t99.desc, Try.t99)), (100, (Try.t100.desc, Try.t100)), (101, (Try.t101.desc, Try.t101)), (102, (Try.t102.desc, Try.t102)), (103, (Try.t103.desc, Try.t103)), (104, (Try.t103.desc, Try.t104)), (105, (Try.t105.desc, Try.t105)), (106, (Try.t105.desc, Try.t106)), (107, (Try.t107.desc, Try.t107)), (108, (Try.t108.desc, Try.t108)), (109, (Try.t79.desc, Try.t109)), (110, (Try.t110.desc, Try.t110)), (111, (Try.t111.desc, Try.t111)), (112, (Try.t112.desc, Try.t112)), (113, (Try.t113.desc, Try.t113)), (114, (Try.t114.desc, Try.t114)), (116, (Try.t116.desc, Try.t116)), (117, (Try.t117.desc, Try.t117)), (118, (Try.t118.desc, Try.t118)), (119, (Try.t119.desc, Try.t119)), (120, (Try.t120.desc, Try.t120)), (121, (Try.t121.desc, Try.t121)), (122, (Try.t122.desc, Try.t122)), (123, (Try.t123.desc, Try.t123)), (124, (Try.t124.desc, Try.t124)), (125, (Try.t125.desc, Try.t125)), (126, (Try.t126.desc, Try.t126)), (127, (Try.t127.desc, Try.t127)), (128, (Try.t128.desc, Try.t128)), (129, (Try.t129.desc, Try.t129)), (130, (Try.t130.desc, Try.t130)), (131, (Try.t131.desc, Try.t131)), (132, (Try.t132.desc, Try.t132)), (133, (Try.t133.desc, Try.t133)), (134, (Try.t134.desc, Try.t134)), (135, (Try.t135.desc, Try.t135)), (136, (Try.t135.desc, Try.t136)), (137, (Try.t137.desc, Try.t137)), (138, (Try.t138.desc, Try.t138)), (139, (Try.t138.desc, Try.t139)), (140, (Try.t140.desc, Try.t140)), (141, (Try.t141.desc, Try.t141)), (142, (Try.t142.desc, Try.t142)), (143, (Try.t143.desc, Try.t143)), (144, (Try.t144.desc, Try.t144)), (145, (Try.t145.desc, Try.t145)), (146, (Try.t146.desc, Try.t146)), (147, (Try.t147.desc, Try.t147)), (148, (Try.t148.desc, Try.t148)), (149, (Try.t149.desc, Try.t149)), (150, (Try.t149.desc, Try.t150)), (151, (Try.t151.desc, Try.t151)), (152, (Try.t152.desc, Try.t152)), (153, (Try.t153.desc, Try.t153)), (154, (Try.t154.desc, Try.t154)), (155, (Try.t155.desc, Try.t155)), (156, (Try.t156.desc, Try.t156)), (157, (Try.t157.desc, Try.t157)), (158, (Try.t158.desc, Try.t158)), (159, (Try.t158.desc, Try.t159)), (160, (Try.t160.desc, Try.t160)), (161, (Try.t161.desc, Try.t161)), (163, (Try.t163.desc, Try.t163)), (164, (Try.t164.desc, Try.t164)), (165, (Try.t165.desc, Try.t165)), (166, (Try.t166.desc, Try.t166)), (167, (Try.t167.desc, Try.t167)), (168, (Try.t167.desc, Try.t168)), (169, (Try.t169.desc, Try.t169)), (171, (Try.t171.desc, Try.t171)), (172, (Try.t172.desc, Try.t172)), (173, (Try.t172.desc, Try.t173)), (174, (Try.t174.desc, Try.t174)), (175, (Try.t175.desc, Try.t175)), (176, (Try.t175.desc, Try.t176)), (177, (Try.t177.desc, Try.t177)), (178, (Try.t178.desc, Try.t178)), (179, (Try.t179.desc, Try.t179)), (180, (Try.t180.desc, Try.t180)), (181, (Try.t181.desc, Try.t181)), (183, (Try.t183.desc, Try.t183)), (184, (Try.t184.desc, Try.t184)), (186, (Try.t186.desc, Try.t186)), (187, (Try.t187.desc, Try.t187)), (188, (Try.t188.desc, Try.t188)), (191, (Try.t191.desc, Try.t191)), (194, (Try.t5.desc, Try.t194)), (195, (Try.t5.desc, Try.t195)), (196, (Try.t196.desc, Try.t196)), (197, (Try.t197.desc, Try.t197)), (198, (Try.t21.desc, Try.t198)), (199, (Try.t21.desc, Try.t199)), (202, (Try.t202.desc, Try.t202))]
theorem ty1 : TyOK Try.prog 1 Try.t1.desc Try.t1 := ⟨Try.underlying1, Try.typeInfo1, rfl, (fun h => nomatch h), (fun h => nomatch h)⟩
theorem ty2 : TyOK Try.prog 2 Try.t2.desc Try.t2 := ⟨Try.underlying2, Try.typeInfo2, rfl, (fun h => nomatch h), (fun h => nomatch h)⟩
theorem ty3 : TyOK Try.prog 3 Try.t3.desc Try.t3 := ⟨Try.underlying3, Try.typeInfo3, rfl, (fun h => nomatch h), (fun h => nomatch h)⟩
theorem ty4 : TyOK Try.prog 4 Try.t4.desc Try.t4 := ⟨Try.underlying4, Try.typeInfo4, rfl, (fun h => nomatch h), (fun h => nomatch h)⟩
theorem ty5 : TyOK Try.prog 5 Try.t5.desc Try.t5 := ⟨Try.underlying5, Try.typeInfo5, rfl, (fun h => nomatch h), (fun h => nomatch h)⟩
theorem ty6 : TyOK Try.prog 6 Try.t5.desc Try.t6 := ⟨Try.underlying6, Try.typeInfo6, rfl, (fun h => nomatch h), (fun h => nomatch h)⟩
theorem ty7 : TyOK Try.prog 7 Try.t7.desc Try.t7 := ⟨Try.underlying7, Try.typeInfo7, rfl, (fun _ => Try.stoodInHeld7), (fun _ => Try.eqGuardType7)⟩
theorem ty8 : TyOK Try.prog 8 Try.t7.desc Try.t8 := ⟨Try.underlying8, Try.typeInfo8, rfl, (fun _ => Try.stoodInHeld8), (fun _ => Try.eqGuardType8)⟩
theorem ty9 : TyOK Try.prog 9 Try.t9.desc Try.t9 := ⟨Try.underlying9, Try.typeInfo9, rfl, (fun h => nomatch h), (fun h => nomatch h)⟩
theorem ty10 : TyOK Try.prog 10 Try.t9.desc Try.t10 := ⟨Try.underlying10, Try.typeInfo10, rfl, (fun h => nomatch h), (fun h => nomatch h)⟩
theorem ty11 : TyOK Try.prog 11 Try.t9.desc Try.t11 := ⟨Try.underlying11, Try.typeInfo11, rfl, (fun h => nomatch h), (fun h => nomatch h)⟩
theorem ty12 : TyOK Try.prog 12 Try.t12.desc Try.t12 := ⟨Try.underlying12, Try.typeInfo12, rfl, (fun h => nomatch h), (fun h => nomatch h)⟩
theorem ty15 : TyOK Try.prog 15 Try.t15.desc Try.t15 := ⟨Try.underlying15, Try.typeInfo15, rfl, (fun h => nomatch h), (fun h => nomatch h)⟩
theorem ty16 : TyOK Try.prog 16 Try.t16.desc Try.t16 := ⟨Try.underlying16, Try.typeInfo16, rfl, (fun h => nomatch h), (fun h => nomatch h)⟩
theorem ty17 : TyOK Try.prog 17 Try.t17.desc Try.t17 := ⟨Try.underlying17, Try.typeInfo17, rfl, (fun h => nomatch h), (fun h => nomatch h)⟩
theorem ty20 : TyOK Try.prog 20 Try.t20.desc Try.t20 := ⟨Try.underlying20, Try.typeInfo20, rfl, (fun h => nomatch h), (fun h => nomatch h)⟩
theorem ty21 : TyOK Try.prog 21 Try.t21.desc Try.t21 := ⟨Try.underlying21, Try.typeInfo21, rfl, (fun h => nomatch h), (fun h => nomatch h)⟩
theorem ty22 : TyOK Try.prog 22 Try.t22.desc Try.t22 := ⟨Try.underlying22, Try.typeInfo22, rfl, (fun h => nomatch h), (fun h => nomatch h)⟩
theorem ty23 : TyOK Try.prog 23 Try.t23.desc Try.t23 := ⟨Try.underlying23, Try.typeInfo23, rfl, (fun _ => Try.stoodInHeld23), (fun _ => Try.eqGuardType23)⟩
theorem ty24 : TyOK Try.prog 24 Try.t23.desc Try.t24 := ⟨Try.underlying24, Try.typeInfo24, rfl, (fun _ => Try.stoodInHeld24), (fun _ => Try.eqGuardType24)⟩
theorem ty25 : TyOK Try.prog 25 Try.t25.desc Try.t25 := ⟨Try.underlying25, Try.typeInfo25, rfl, (fun h => nomatch h), (fun h => nomatch h)⟩
theorem ty26 : TyOK Try.prog 26 Try.t26.desc Try.t26 := ⟨Try.underlying26, Try.typeInfo26, rfl, (fun h => nomatch h), (fun h => nomatch h)⟩
theorem ty27 : TyOK Try.prog 27 Try.t27.desc Try.t27 := ⟨Try.underlying27, Try.typeInfo27, rfl, (fun h => nomatch h), (fun h => nomatch h)⟩
theorem ty28 : TyOK Try.prog 28 Try.t28.desc Try.t28 := ⟨Try.underlying28, Try.typeInfo28, rfl, (fun h => nomatch h), (fun h => nomatch h)⟩
theorem ty29 : TyOK Try.prog 29 Try.t3.desc Try.t29 := ⟨Try.underlying29, Try.typeInfo29, rfl, (fun h => nomatch h), (fun h => nomatch h)⟩
theorem ty31 : TyOK Try.prog 31 Try.t31.desc Try.t31 := ⟨Try.underlying31, Try.typeInfo31, rfl, (fun h => nomatch h), (fun h => nomatch h)⟩
theorem ty32 : TyOK Try.prog 32 Try.t32.desc Try.t32 := ⟨Try.underlying32, Try.typeInfo32, rfl, (fun _ => Try.stoodInHeld32), (fun _ => Try.eqGuardType32)⟩
theorem ty33 : TyOK Try.prog 33 Try.t32.desc Try.t33 := ⟨Try.underlying33, Try.typeInfo33, rfl, (fun _ => Try.stoodInHeld33), (fun _ => Try.eqGuardType33)⟩
theorem ty34 : TyOK Try.prog 34 Try.t34.desc Try.t34 := ⟨Try.underlying34, Try.typeInfo34, rfl, (fun h => nomatch h), (fun h => nomatch h)⟩
theorem ty35 : TyOK Try.prog 35 Try.t35.desc Try.t35 := ⟨Try.underlying35, Try.typeInfo35, rfl, (fun h => nomatch h), (fun h => nomatch h)⟩
theorem ty36 : TyOK Try.prog 36 Try.t36.desc Try.t36 := ⟨Try.underlying36, Try.typeInfo36, rfl, (fun h => nomatch h), (fun h => nomatch h)⟩
theorem ty37 : TyOK Try.prog 37 Try.t37.desc Try.t37 := ⟨Try.underlying37, Try.typeInfo37, rfl, (fun h => nomatch h), (fun h => nomatch h)⟩
theorem ty38 : TyOK Try.prog 38 Try.t38.desc Try.t38 := ⟨Try.underlying38, Try.typeInfo38, rfl, (fun h => nomatch h), (fun h => nomatch h)⟩
theorem ty39 : TyOK Try.prog 39 Try.t39.desc Try.t39 := ⟨Try.underlying39, Try.typeInfo39, rfl, (fun h => nomatch h), (fun h => nomatch h)⟩
theorem ty40 : TyOK Try.prog 40 Try.t40.desc Try.t40 := ⟨Try.underlying40, Try.typeInfo40, rfl, (fun h => nomatch h), (fun h => nomatch h)⟩
theorem ty41 : TyOK Try.prog 41 Try.t41.desc Try.t41 := ⟨Try.underlying41, Try.typeInfo41, rfl, (fun h => nomatch h), (fun h => nomatch h)⟩
theorem ty42 : TyOK Try.prog 42 Try.t42.desc Try.t42 := ⟨Try.underlying42, Try.typeInfo42, rfl, (fun h => nomatch h), (fun h => nomatch h)⟩
theorem ty43 : TyOK Try.prog 43 Try.t43.desc Try.t43 := ⟨Try.underlying43, Try.typeInfo43, rfl, (fun h => nomatch h), (fun h => nomatch h)⟩
theorem ty44 : TyOK Try.prog 44 Try.t44.desc Try.t44 := ⟨Try.underlying44, Try.typeInfo44, rfl, (fun h => nomatch h), (fun h => nomatch h)⟩
theorem ty45 : TyOK Try.prog 45 Try.t45.desc Try.t45 := ⟨Try.underlying45, Try.typeInfo45, rfl, (fun h => nomatch h), (fun h => nomatch h)⟩
theorem ty47 : TyOK Try.prog 47 Try.t47.desc Try.t47 := ⟨Try.underlying47, Try.typeInfo47, rfl, (fun h => nomatch h), (fun h => nomatch h)⟩
theorem ty48 : TyOK Try.prog 48 Try.t48.desc Try.t48 := ⟨Try.underlying48, Try.typeInfo48, rfl, (fun _ => Try.stoodInHeld48), (fun _ => Try.eqGuardType48)⟩
theorem ty49 : TyOK Try.prog 49 Try.t48.desc Try.t49 := ⟨Try.underlying49, Try.typeInfo49, rfl, (fun _ => Try.stoodInHeld49), (fun _ => Try.eqGuardType49)⟩
theorem ty50 : TyOK Try.prog 50 Try.t50.desc Try.t50 := ⟨Try.underlying50, Try.typeInfo50, rfl, (fun h => nomatch h), (fun h => nomatch h)⟩
theorem ty51 : TyOK Try.prog 51 Try.t51.desc Try.t51 := ⟨Try.underlying51, Try.typeInfo51, rfl, (fun h => nomatch h), (fun h => nomatch h)⟩
theorem ty52 : TyOK Try.prog 52 Try.t52.desc Try.t52 := ⟨Try.underlying52, Try.typeInfo52, rfl, (fun h => nomatch h), (fun h => nomatch h)⟩
theorem ty53 : TyOK Try.prog 53 Try.t53.desc Try.t53 := ⟨Try.underlying53, Try.typeInfo53, rfl, (fun h => nomatch h), (fun h => nomatch h)⟩
theorem ty54 : TyOK Try.prog 54 Try.t54.desc Try.t54 := ⟨Try.underlying54, Try.typeInfo54, rfl, (fun h => nomatch h), (fun h => nomatch h)⟩
theorem ty55 : TyOK Try.prog 55 Try.t55.desc Try.t55 := ⟨Try.underlying55, Try.typeInfo55, rfl, (fun h => nomatch h), (fun h => nomatch h)⟩
theorem ty56 : TyOK Try.prog 56 Try.t56.desc Try.t56 := ⟨Try.underlying56, Try.typeInfo56, rfl, (fun h => nomatch h), (fun h => nomatch h)⟩
theorem ty57 : TyOK Try.prog 57 Try.t57.desc Try.t57 := ⟨Try.underlying57, Try.typeInfo57, rfl, (fun h => nomatch h), (fun h => nomatch h)⟩
theorem ty58 : TyOK Try.prog 58 Try.t58.desc Try.t58 := ⟨Try.underlying58, Try.typeInfo58, rfl, (fun h => nomatch h), (fun h => nomatch h)⟩
theorem ty59 : TyOK Try.prog 59 Try.t59.desc Try.t59 := ⟨Try.underlying59, Try.typeInfo59, rfl, (fun h => nomatch h), (fun h => nomatch h)⟩
theorem ty60 : TyOK Try.prog 60 Try.t60.desc Try.t60 := ⟨Try.underlying60, Try.typeInfo60, rfl, (fun h => nomatch h), (fun h => nomatch h)⟩
theorem ty61 : TyOK Try.prog 61 Try.t61.desc Try.t61 := ⟨Try.underlying61, Try.typeInfo61, rfl, (fun h => nomatch h), (fun h => nomatch h)⟩
theorem ty62 : TyOK Try.prog 62 Try.t62.desc Try.t62 := ⟨Try.underlying62, Try.typeInfo62, rfl, (fun _ => Try.stoodInHeld62), (fun _ => Try.eqGuardType62)⟩
theorem ty63 : TyOK Try.prog 63 Try.t62.desc Try.t63 := ⟨Try.underlying63, Try.typeInfo63, rfl, (fun _ => Try.stoodInHeld63), (fun _ => Try.eqGuardType63)⟩
theorem ty65 : TyOK Try.prog 65 Try.t65.desc Try.t65 := ⟨Try.underlying65, Try.typeInfo65, rfl, (fun h => nomatch h), (fun h => nomatch h)⟩
theorem ty66 : TyOK Try.prog 66 Try.t66.desc Try.t66 := ⟨Try.underlying66, Try.typeInfo66, rfl, (fun h => nomatch h), (fun h => nomatch h)⟩
theorem ty67 : TyOK Try.prog 67 Try.t67.desc Try.t67 := ⟨Try.underlying67, Try.typeInfo67, rfl, (fun h => nomatch h), (fun h => nomatch h)⟩
theorem ty68 : TyOK Try.prog 68 Try.t68.desc Try.t68 := ⟨Try.underlying68, Try.typeInfo68, rfl, (fun h => nomatch h), (fun h => nomatch h)⟩
theorem ty69 : TyOK Try.prog 69 Try.t69.desc Try.t69 := ⟨Try.underlying69, Try.typeInfo69, rfl, (fun h => nomatch h), (fun h => nomatch h)⟩
theorem ty70 : TyOK Try.prog 70 Try.t70.desc Try.t70 := ⟨Try.underlying70, Try.typeInfo70, rfl, (fun h => nomatch h), (fun h => nomatch h)⟩
theorem ty71 : TyOK Try.prog 71 Try.t71.desc Try.t71 := ⟨Try.underlying71, Try.typeInfo71, rfl, (fun _ => Try.stoodInHeld71), (fun _ => Try.eqGuardType71)⟩
theorem ty72 : TyOK Try.prog 72 Try.t71.desc Try.t72 := ⟨Try.underlying72, Try.typeInfo72, rfl, (fun _ => Try.stoodInHeld72), (fun _ => Try.eqGuardType72)⟩
theorem ty73 : TyOK Try.prog 73 Try.t73.desc Try.t73 := ⟨Try.underlying73, Try.typeInfo73, rfl, (fun h => nomatch h), (fun h => nomatch h)⟩
theorem ty74 : TyOK Try.prog 74 Try.t74.desc Try.t74 := ⟨Try.underlying74, Try.typeInfo74, rfl, (fun h => nomatch h), (fun h => nomatch h)⟩
theorem ty75 : TyOK Try.prog 75 Try.t75.desc Try.t75 := ⟨Try.underlying75, Try.typeInfo75, rfl, (fun h => nomatch h), (fun h => nomatch h)⟩
theorem ty76 : TyOK Try.prog 76 Try.t76.desc Try.t76 := ⟨Try.underlying76, Try.typeInfo76, rfl, (fun h => nomatch h), (fun h => nomatch h)⟩
theorem ty77 : TyOK Try.prog 77 Try.t77.desc Try.t77 := ⟨Try.underlying77, Try.typeInfo77, rfl, (fun h => nomatch h), (fun h => nomatch h)⟩
theorem ty78 : TyOK Try.prog 78 Try.t78.desc Try.t78 := ⟨Try.underlying78, Try.typeInfo78, rfl, (fun h => nomatch h), (fun h => nomatch h)⟩
theorem ty79 : TyOK Try.prog 79 Try.t79.desc Try.t79 := ⟨Try.underlying79, Try.typeInfo79, rfl, (fun _ => Try.stoodInHeld79), (fun _ => Try.eqGuardType79)⟩
theorem ty80 : TyOK Try.prog 80 Try.t79.desc Try.t80 := ⟨Try.underlying80, Try.typeInfo80, rfl, (fun _ => Try.stoodInHeld80), (fun _ => Try.eqGuardType80)⟩
theorem ty81 : TyOK Try.prog 81 Try.t81.desc Try.t81 := ⟨Try.underlying81, Try.typeInfo81, rfl, (fun h => nomatch h), (fun h => nomatch h)⟩
theorem ty82 : TyOK Try.prog 82 Try.t82.desc Try.t82 := ⟨Try.underlying82, Try.typeInfo82, rfl, (fun h => nomatch h), (fun h => nomatch h)⟩
theorem ty84 : TyOK Try.prog 84 Try.t84.desc Try.t84 := ⟨Try.underlying84, Try.typeInfo84, rfl, (fun h => nomatch h), (fun h => nomatch h)⟩
theorem ty85 : TyOK Try.prog 85 Try.t85.desc Try.t85 := ⟨Try.underlying85, Try.typeInfo85, rfl, (fun _ => Try.stoodInHeld85), (fun _ => Try.eqGuardType85)⟩
theorem ty86 : TyOK Try.prog 86 Try.t85.desc Try.t86 := ⟨Try.underlying86, Try.typeInfo86, rfl, (fun _ => Try.stoodInHeld86), (fun _ => Try.eqGuardType86)⟩
theorem ty87 : TyOK Try.prog 87 Try.t87.desc Try.t87 := ⟨Try.underlying87, Try.typeInfo87, rfl, (fun h => nomatch h), (fun h => nomatch h)⟩
theorem ty88 : TyOK Try.prog 88 Try.t88.desc Try.t88 := ⟨Try.underlying88, Try.typeInfo88, rfl, (fun h => nomatch h), (fun h => nomatch h)⟩
theorem ty89 : TyOK Try.prog 89 Try.t89.desc Try.t89 := ⟨Try.underlying89, Try.typeInfo89, rfl, (fun h => nomatch h), (fun h => nomatch h)⟩
theorem ty90 : TyOK Try.prog 90 Try.t90.desc Try.t90 := ⟨Try.underlying90, Try.typeInfo90, rfl, (fun h => nomatch h), (fun h => nomatch h)⟩
theorem ty91 : TyOK Try.prog 91 Try.t91.desc Try.t91 := ⟨Try.underlying91, Try.typeInfo91, rfl, (fun h => nomatch h), (fun h => nomatch h)⟩
theorem ty92 : TyOK Try.prog 92 Try.t92.desc Try.t92 := ⟨Try.underlying92, Try.typeInfo92, rfl, (fun h => nomatch h), (fun h => nomatch h)⟩
theorem ty93 : TyOK Try.prog 93 Try.t93.desc Try.t93 := ⟨Try.underlying93, Try.typeInfo93, rfl, (fun h => nomatch h), (fun h => nomatch h)⟩
theorem ty94 : TyOK Try.prog 94 Try.t94.desc Try.t94 := ⟨Try.underlying94, Try.typeInfo94, rfl, (fun h => nomatch h), (fun h => nomatch h)⟩
theorem ty96 : TyOK Try.prog 96 Try.t96.desc Try.t96 := ⟨Try.underlying96, Try.typeInfo96, rfl, (fun h => nomatch h), (fun h => nomatch h)⟩
theorem ty97 : TyOK Try.prog 97 Try.t97.desc Try.t97 := ⟨Try.underlying97, Try.typeInfo97, rfl, (fun _ => Try.stoodInHeld97), (fun _ => Try.eqGuardType97)⟩
theorem ty98 : TyOK Try.prog 98 Try.t97.desc Try.t98 := ⟨Try.underlying98, Try.typeInfo98, rfl, (fun _ => Try.stoodInHeld98), (fun _ => Try.eqGuardType98)⟩
theorem ty99 : TyOK Try.prog 99 Try.t99.desc Try.t99 := ⟨Try.underlying99, Try.typeInfo99, rfl, (fun h => nomatch h), (fun h => nomatch h)⟩
theorem ty100 : TyOK Try.prog 100 Try.t100.desc Try.t100 := ⟨Try.underlying100, Try.typeInfo100, rfl, (fun h => nomatch h), (fun h => nomatch h)⟩
theorem ty101 : TyOK Try.prog 101 Try.t101.desc Try.t101 := ⟨Try.underlying101, Try.typeInfo101, rfl, (fun h => nomatch h), (fun h => nomatch h)⟩
theorem ty102 : TyOK Try.prog 102 Try.t102.desc Try.t102 := ⟨Try.underlying102, Try.typeInfo102, rfl, (fun h => nomatch h), (fun h => nomatch h)⟩
theorem ty103 : TyOK Try.prog 103 Try.t103.desc Try.t103 := ⟨Try.underlying103, Try.typeInfo103, rfl, (fun _ => Try.stoodInHeld103), (fun _ => Try.eqGuardType103)⟩
theorem ty104 : TyOK Try.prog 104 Try.t103.desc Try.t104 := ⟨Try.underlying104, Try.typeInfo104, rfl, (fun _ => Try.stoodInHeld104), (fun _ => Try.eqGuardType104)⟩
theorem ty105 : TyOK Try.prog 105 Try.t105.desc Try.t105 := ⟨Try.underlying105, Try.typeInfo105, rfl, (fun _ => Try.stoodInHeld105), (fun _ => Try.eqGuardType105)⟩
theorem ty106 : TyOK Try.prog 106 Try.t105.desc Try.t106 := ⟨Try.underlying106, Try.typeInfo106, rfl, (fun _ => Try.stoodInHeld106), (fun _ => Try.eqGuardType106)⟩
theorem ty107 : TyOK Try.prog 107 Try.t107.desc Try.t107 := ⟨Try.underlying107, Try.typeInfo107, rfl, (fun h => nomatch h), (fun _ => Try.eqGuardType107)⟩
theorem ty108 : TyOK Try.prog 108 Try.t108.desc Try.t108 := ⟨Try.underlying108, Try.typeInfo108, rfl, (fun h => nomatch h), (fun _ => Try.eqGuardType108)⟩
theorem ty109 : TyOK Try.prog 109 Try.t79.desc Try.t109 := ⟨Try.underlying109, Try.typeInfo109, rfl, (fun _ => Try.stoodInHeld109), (fun _ => Try.eqGuardType109)⟩
theorem ty110 : TyOK Try.prog 110 Try.t110.desc Try.t110 := ⟨Try.underlying110, Try.typeInfo110, rfl, (fun h => nomatch h), (fun _ => Try.eqGuardType110)⟩
theorem ty111 : TyOK Try.prog 111 Try.t111.desc Try.t111 := ⟨Try.underlying111, Try.typeInfo111, rfl, (fun h => nomatch h), (fun h => nomatch h)⟩
theorem ty112 : TyOK Try.prog 112 Try.t112.desc Try.t112 := ⟨Try.underlying112, Try.typeInfo112, rfl, (fun h => nomatch h), (fun h => nomatch h)⟩
theorem ty113 : TyOK Try.prog 113 Try.t113.desc Try.t113 := ⟨Try.underlying113, Try.typeInfo113, rfl, (fun h => nomatch h), (fun h => nomatch h)⟩
theorem ty114 : TyOK Try.prog 114 Try.t114.desc Try.t114 := ⟨Try.underlying114, Try.typeInfo114, rfl, (fun h => nomatch h), (fun h => nomatch h)⟩
theorem ty116 : TyOK Try.prog 116 Try.t116.desc Try.t116 := ⟨Try.underlying116, Try.typeInfo116, rfl, (fun h => nomatch h), (fun h => nomatch h)⟩
theorem ty117 : TyOK Try.prog 117 Try.t117.desc Try.t117 := ⟨Try.underlying117, Try.typeInfo117, rfl, (fun h => nomatch h), (fun h => nomatch h)⟩
theorem ty118 : TyOK Try.prog 118 Try.t118.desc Try.t118 := ⟨Try.underlying118, Try.typeInfo118, rfl, (fun h => nomatch h), (fun h => nomatch h)⟩
theorem ty119 : TyOK Try.prog 119 Try.t119.desc Try.t119 := ⟨Try.underlying119, Try.typeInfo119, rfl, (fun h => nomatch h), (fun h => nomatch h)⟩
theorem ty120 : TyOK Try.prog 120 Try.t120.desc Try.t120 := ⟨Try.underlying120, Try.typeInfo120, rfl, (fun h => nomatch h), (fun h => nomatch h)⟩
theorem ty121 : TyOK Try.prog 121 Try.t121.desc Try.t121 := ⟨Try.underlying121, Try.typeInfo121, rfl, (fun h => nomatch h), (fun h => nomatch h)⟩
theorem ty122 : TyOK Try.prog 122 Try.t122.desc Try.t122 := ⟨Try.underlying122, Try.typeInfo122, rfl, (fun h => nomatch h), (fun h => nomatch h)⟩
theorem ty123 : TyOK Try.prog 123 Try.t123.desc Try.t123 := ⟨Try.underlying123, Try.typeInfo123, rfl, (fun h => nomatch h), (fun h => nomatch h)⟩
theorem ty124 : TyOK Try.prog 124 Try.t124.desc Try.t124 := ⟨Try.underlying124, Try.typeInfo124, rfl, (fun h => nomatch h), (fun h => nomatch h)⟩
theorem ty125 : TyOK Try.prog 125 Try.t125.desc Try.t125 := ⟨Try.underlying125, Try.typeInfo125, rfl, (fun h => nomatch h), (fun h => nomatch h)⟩
theorem ty126 : TyOK Try.prog 126 Try.t126.desc Try.t126 := ⟨Try.underlying126, Try.typeInfo126, rfl, (fun h => nomatch h), (fun h => nomatch h)⟩
theorem ty127 : TyOK Try.prog 127 Try.t127.desc Try.t127 := ⟨Try.underlying127, Try.typeInfo127, rfl, (fun h => nomatch h), (fun h => nomatch h)⟩
theorem ty128 : TyOK Try.prog 128 Try.t128.desc Try.t128 := ⟨Try.underlying128, Try.typeInfo128, rfl, (fun h => nomatch h), (fun h => nomatch h)⟩
theorem ty129 : TyOK Try.prog 129 Try.t129.desc Try.t129 := ⟨Try.underlying129, Try.typeInfo129, rfl, (fun h => nomatch h), (fun h => nomatch h)⟩
theorem ty130 : TyOK Try.prog 130 Try.t130.desc Try.t130 := ⟨Try.underlying130, Try.typeInfo130, rfl, (fun h => nomatch h), (fun h => nomatch h)⟩
theorem ty131 : TyOK Try.prog 131 Try.t131.desc Try.t131 := ⟨Try.underlying131, Try.typeInfo131, rfl, (fun h => nomatch h), (fun h => nomatch h)⟩
theorem ty132 : TyOK Try.prog 132 Try.t132.desc Try.t132 := ⟨Try.underlying132, Try.typeInfo132, rfl, (fun h => nomatch h), (fun h => nomatch h)⟩
theorem ty133 : TyOK Try.prog 133 Try.t133.desc Try.t133 := ⟨Try.underlying133, Try.typeInfo133, rfl, (fun h => nomatch h), (fun h => nomatch h)⟩
theorem ty134 : TyOK Try.prog 134 Try.t134.desc Try.t134 := ⟨Try.underlying134, Try.typeInfo134, rfl, (fun h => nomatch h), (fun h => nomatch h)⟩
theorem ty135 : TyOK Try.prog 135 Try.t135.desc Try.t135 := ⟨Try.underlying135, Try.typeInfo135, rfl, (fun _ => Try.stoodInHeld135), (fun _ => Try.eqGuardType135)⟩
theorem ty136 : TyOK Try.prog 136 Try.t135.desc Try.t136 := ⟨Try.underlying136, Try.typeInfo136, rfl, (fun _ => Try.stoodInHeld136), (fun _ => Try.eqGuardType136)⟩
theorem ty137 : TyOK Try.prog 137 Try.t137.desc Try.t137 := ⟨Try.underlying137, Try.typeInfo137, rfl, (fun h => nomatch h), (fun h => nomatch h)⟩
theorem ty138 : TyOK Try.prog 138 Try.t138.desc Try.t138 := ⟨Try.underlying138, Try.typeInfo138, rfl, (fun _ => Try.stoodInHeld138), (fun _ => Try.eqGuardType138)⟩
theorem ty139 : TyOK Try.prog 139 Try.t138.desc Try.t139 := ⟨Try.underlying139, Try.typeInfo139, rfl, (fun _ => Try.stoodInHeld139), (fun _ => Try.eqGuardType139)⟩
theorem ty140 : TyOK Try.prog 140 Try.t140.desc Try.t140 := ⟨Try.underlying140, Try.typeInfo140, rfl, (fun h => nomatch h), (fun h => nomatch h)⟩
theorem ty141 : TyOK Try.prog 141 Try.t141.desc Try.t141 := ⟨Try.underlying141, Try.typeInfo141, rfl, (fun h => nomatch h), (fun h => nomatch h)⟩
theorem ty142 : TyOK Try.prog 142 Try.t142.desc Try.t142 := ⟨Try.underlying142, Try.typeInfo142, rfl, (fun h => nomatch h), (fun h => nomatch h)⟩
theorem ty143 : TyOK Try.prog 143 Try.t143.desc Try.t143 := ⟨Try.underlying143, Try.typeInfo143, rfl, (fun h => nomatch h), (fun h => nomatch h)⟩
theorem ty144 : TyOK Try.prog 144 Try.t144.desc Try.t144 := ⟨Try.underlying144, Try.typeInfo144, rfl, (fun h => nomatch h), (fun h => nomatch h)⟩
theorem ty145 : TyOK Try.prog 145 Try.t145.desc Try.t145 := ⟨Try.underlying145, Try.typeInfo145, rfl, (fun h => nomatch h), (fun h => nomatch h)⟩
theorem ty146 : TyOK Try.prog 146 Try.t146.desc Try.t146 := ⟨Try.underlying146, Try.typeInfo146, rfl, (fun h => nomatch h), (fun h => nomatch h)⟩
theorem ty147 : TyOK Try.prog 147 Try.t147.desc Try.t147 := ⟨Try.underlying147, Try.typeInfo147, rfl, (fun h => nomatch h), (fun h => nomatch h)⟩
theorem ty148 : TyOK Try.prog 148 Try.t148.desc Try.t148 := ⟨Try.underlying148, Try.typeInfo148, rfl, (fun h => nomatch h), (fun h => nomatch h)⟩
theorem ty149 : TyOK Try.prog 149 Try.t149.desc Try.t149 := ⟨Try.underlying149, Try.typeInfo149, rfl, (fun h => nomatch h), (fun h => nomatch h)⟩
theorem ty150 : TyOK Try.prog 150 Try.t149.desc Try.t150 := ⟨Try.underlying150, Try.typeInfo150, rfl, (fun h => nomatch h), (fun h => nomatch h)⟩
theorem ty151 : TyOK Try.prog 151 Try.t151.desc Try.t151 := ⟨Try.underlying151, Try.typeInfo151, rfl, (fun h => nomatch h), (fun h => nomatch h)⟩
theorem ty152 : TyOK Try.prog 152 Try.t152.desc Try.t152 := ⟨Try.underlying152, Try.typeInfo152, rfl, (fun h => nomatch h), (fun h => nomatch h)⟩
theorem ty153 : TyOK Try.prog 153 Try.t153.desc Try.t153 := ⟨Try.underlying153, Try.typeInfo153, rfl, (fun h => nomatch h), (fun h => nomatch h)⟩
theorem ty154 : TyOK Try.prog 154 Try.t154.desc Try.t154 := ⟨Try.underlying154, Try.typeInfo154, rfl, (fun h => nomatch h), (fun _ => Try.eqGuardType154)⟩
theorem ty155 : TyOK Try.prog 155 Try.t155.desc Try.t155 := ⟨Try.underlying155, Try.typeInfo155, rfl, (fun h => nomatch h), (fun h => nomatch h)⟩
theorem ty156 : TyOK Try.prog 156 Try.t156.desc Try.t156 := ⟨Try.underlying156, Try.typeInfo156, rfl, (fun h => nomatch h), (fun h => nomatch h)⟩
theorem ty157 : TyOK Try.prog 157 Try.t157.desc Try.t157 := ⟨Try.underlying157, Try.typeInfo157, rfl, (fun h => nomatch h), (fun h => nomatch h)⟩
theorem ty158 : TyOK Try.prog 158 Try.t158.desc Try.t158 := ⟨Try.underlying158, Try.typeInfo158, rfl, (fun _ => Try.stoodInHeld158), (fun _ => Try.eqGuardType158)⟩
theorem ty159 : TyOK Try.prog 159 Try.t158.desc Try.t159 := ⟨Try.underlying159, Try.typeInfo159, rfl, (fun _ => Try.stoodInHeld159), (fun _ => Try.eqGuardType159)⟩
theorem ty160 : TyOK Try.prog 160 Try.t160.desc Try.t160 := ⟨Try.underlying160, Try.typeInfo160, rfl, (fun h => nomatch h), (fun h => nomatch h)⟩
theorem ty161 : TyOK Try.prog 161 Try.t161.desc Try.t161 := ⟨Try.underlying161, Try.typeInfo161, rfl, (fun h => nomatch h), (fun h => nomatch h)⟩
theorem ty163 : TyOK Try.prog 163 Try.t163.desc Try.t163 := ⟨Try.underlying163, Try.typeInfo163, rfl, (fun h => nomatch h), (fun h => nomatch h)⟩
theorem ty164 : TyOK Try.prog 164 Try.t164.desc Try.t164 := ⟨Try.underlying164, Try.typeInfo164, rfl, (fun h => nomatch h), (fun h => nomatch h)⟩
theorem ty165 : TyOK Try.prog 165 Try.t165.desc Try.t165 := ⟨Try.underlying165, Try.typeInfo165, rfl, (fun h => nomatch h), (fun h => nomatch h)⟩
theorem ty166 : TyOK Try.prog 166 Try.t166.desc Try.t166 := ⟨Try.underlying166, Try.typeInfo166, rfl, (fun h => nomatch h), (fun h => nomatch h)⟩
theorem ty167 : TyOK Try.prog 167 Try.t167.desc Try.t167 := ⟨Try.underlying167, Try.typeInfo167, rfl, (fun _ => Try.stoodInHeld167), (fun _ => Try.eqGuardType167)⟩
theorem ty168 : TyOK Try.prog 168 Try.t167.desc Try.t168 := ⟨Try.underlying168, Try.typeInfo168, rfl, (fun _ => Try.stoodInHeld168), (fun _ => Try.eqGuardType168)⟩
theorem ty169 : TyOK Try.prog 169 Try.t169.desc Try.t169 := ⟨Try.underlying169, Try.typeInfo169, rfl, (fun h => nomatch h), (fun h => nomatch h)⟩
theorem ty171 : TyOK Try.prog 171 Try.t171.desc Try.t171 := ⟨Try.underlying171, Try.typeInfo171, rfl, (fun h => nomatch h), (fun h => nomatch h)⟩
theorem ty172 : TyOK Try.prog 172 Try.t172.desc Try.t172 := ⟨Try.underlying172, Try.typeInfo172, rfl, (fun h => nomatch h), (fun h => nomatch h)⟩
theorem ty173 : TyOK Try.prog 173 Try.t172.desc Try.t173 := ⟨Try.underlying173, Try.typeInfo173, rfl, (fun h => nomatch h), (fun h => nomatch h)⟩
theorem ty174 : TyOK Try.prog 174 Try.t174.desc Try.t174 := ⟨Try.underlying174, Try.typeInfo174, rfl, (fun h => nomatch h), (fun h => nomatch h)⟩
theorem ty175 : TyOK Try.prog 175 Try.t175.desc Try.t175 := ⟨Try.underlying175, Try.typeInfo175, rfl, (fun _ => Try.stoodInHeld175), (fun _ => Try.eqGuardType175)⟩
theorem ty176 : TyOK Try.prog 176 Try.t175.desc Try.t176 := ⟨Try.underlying176, Try.typeInfo176, rfl, (fun _ => Try.stoodInHeld176), (fun _ => Try.eqGuardType176)⟩
theorem ty177 : TyOK Try.prog 177 Try.t177.desc Try.t177 := ⟨Try.underlying177, Try.typeInfo177, rfl, (fun h => nomatch h), (fun h => nomatch h)⟩
theorem ty178 : TyOK Try.prog 178 Try.t178.desc Try.t178 := ⟨Try.underlying178, Try.typeInfo178, rfl, (fun h => nomatch h), (fun h => nomatch h)⟩
theorem ty179 : TyOK Try.prog 179 Try.t179.desc Try.t179 := ⟨Try.underlying179, Try.typeInfo179, rfl, (fun h => nomatch h), (fun h => nomatch h)⟩
theorem ty180 : TyOK Try.prog 180 Try.t180.desc Try.t180 := ⟨Try.underlying180, Try.typeInfo180, rfl, (fun h => nomatch h), (fun h => nomatch h)⟩
theorem ty181 : TyOK Try.prog 181 Try.t181.desc Try.t181 := ⟨Try.underlying181, Try.typeInfo181, rfl, (fun h => nomatch h), (fun h => nomatch h)⟩
theorem ty183 : TyOK Try.prog 183 Try.t183.desc Try.t183 := ⟨Try.underlying183, Try.typeInfo183, rfl, (fun h => nomatch h), (fun h => nomatch h)⟩
theorem ty184 : TyOK Try.prog 184 Try.t184.desc Try.t184 := ⟨Try.underlying184, Try.typeInfo184, rfl, (fun h => nomatch h), (fun h => nomatch h)⟩
theorem ty186 : TyOK Try.prog 186 Try.t186.desc Try.t186 := ⟨Try.underlying186, Try.typeInfo186, rfl, (fun h => nomatch h), (fun h => nomatch h)⟩
theorem ty187 : TyOK Try.prog 187 Try.t187.desc Try.t187 := ⟨Try.underlying187, Try.typeInfo187, rfl, (fun h => nomatch h), (fun h => nomatch h)⟩
theorem ty188 : TyOK Try.prog 188 Try.t188.desc Try.t188 := ⟨Try.underlying188, Try.typeInfo188, rfl, (fun h => nomatch h), (fun h => nomatch h)⟩
theorem ty191 : TyOK Try.prog 191 Try.t191.desc Try.t191 := ⟨Try.underlying191, Try.typeInfo191, rfl, (fun h => nomatch h), (fun _ => Try.eqGuardType191)⟩
theorem ty194 : TyOK Try.prog 194 Try.t5.desc Try.t194 := ⟨Try.underlying194, Try.typeInfo194, rfl, (fun h => nomatch h), (fun h => nomatch h)⟩
theorem ty195 : TyOK Try.prog 195 Try.t5.desc Try.t195 := ⟨Try.underlying195, Try.typeInfo195, rfl, (fun h => nomatch h), (fun h => nomatch h)⟩
theorem ty196 : TyOK Try.prog 196 Try.t196.desc Try.t196 := ⟨Try.underlying196, Try.typeInfo196, rfl, (fun h => nomatch h), (fun h => nomatch h)⟩
theorem ty197 : TyOK Try.prog 197 Try.t197.desc Try.t197 := ⟨Try.underlying197, Try.typeInfo197, rfl, (fun h => nomatch h), (fun h => nomatch h)⟩
theorem ty198 : TyOK Try.prog 198 Try.t21.desc Try.t198 := ⟨Try.underlying198, Try.typeInfo198, rfl, (fun h => nomatch h), (fun h => nomatch h)⟩
theorem ty199 : TyOK Try.prog 199 Try.t21.desc Try.t199 := ⟨Try.underlying199, Try.typeInfo199, rfl, (fun h => nomatch h), (fun h => nomatch h)⟩
theorem ty202 : TyOK Try.prog 202 Try.t202.desc Try.t202 := ⟨Try.underlying202, Try.typeInfo202, rfl, (fun h => nomatch h), (fun h => nomatch h)⟩
theorem fns_ok : AllOf (fun x => FnOK Try.prog x.1 x.2) fns :=
  .cons _ _ ⟨Try.func2, Try.call2⟩ (
  .cons _ _ ⟨Try.func3, Try.call3⟩ (
  .cons _ _ ⟨Try.func4, Try.call4⟩ (
  .cons _ _ ⟨Try.func5, Try.call5⟩ (
  .cons _ _ ⟨Try.func6, Try.call6⟩ (
  .cons _ _ ⟨Try.func7, Try.call7⟩ (
  .cons _ _ ⟨Try.func8, Try.call8⟩ (
  .cons _ _ ⟨Try.func9, Try.call9⟩ (
  .cons _ _ ⟨Try.func10, Try.call10⟩ (
  .cons _ _ ⟨Try.func11, Try.call11⟩ (
  .cons _ _ ⟨Try.func12, Try.call12⟩ (
  .cons _ _ ⟨Try.func13, Try.call13⟩ (
  .cons _ _ ⟨Try.func14, Try.call14⟩ (
  .cons _ _ ⟨Try.func15, Try.call15⟩ (
  .cons _ _ ⟨Try.func16, Try.call16⟩ (
  .cons _ _ ⟨Try.func17, Try.call17⟩ (
  .cons _ _ ⟨Try.func18, Try.call18⟩ (
  .cons _ _ ⟨Try.func19, Try.call19⟩ (
  .cons _ _ ⟨Try.func20, Try.call20⟩ (
  .cons _ _ ⟨Try.func21, Try.call21⟩ (
  .cons _ _ ⟨Try.func22, Try.call22⟩ (
  .cons _ _ ⟨Try.func23, Try.call23⟩ (
  .cons _ _ ⟨Try.func24, Try.call24⟩ (
  .cons _ _ ⟨Try.func25, Try.call25⟩ (
  .cons _ _ ⟨Try.func26, Try.call26⟩ (
  .cons _ _ ⟨Try.func27, Try.call27⟩ (
  .cons _ _ ⟨Try.func28, Try.call28⟩ (
  .cons _ _ ⟨Try.func29, Try.call29⟩ (
  .cons _ _ ⟨Try.func30, Try.call30⟩ (
  .cons _ _ ⟨Try.func31, Try.call31⟩ (
  .cons _ _ ⟨Try.func32, Try.call32⟩ (
  .cons _ _ ⟨Try.func33, Try.call33⟩ (
  .cons _ _ ⟨Try.func34, Try.call34⟩ (
  .cons _ _ ⟨Try.func35, Try.call35⟩ (
  .cons _ _ ⟨Try.func36, Try.call36⟩ (
  .cons _ _ ⟨Try.func37, Try.call37⟩ (
  .cons _ _ ⟨Try.func38, Try.call38⟩ (
  .cons _ _ ⟨Try.func39, Try.call39⟩ (
  .cons _ _ ⟨Try.func40, Try.call40⟩ (
  .cons _ _ ⟨Try.func41, Try.call41⟩ (
  .cons _ _ ⟨Try.func42, Try.call42⟩ (
  .cons _ _ ⟨Try.func43, Try.call43⟩ (
  .cons _ _ ⟨Try.func44, Try.call44⟩ (
  .cons _ _ ⟨Try.func45, Try.call45⟩ (
  .cons _ _ ⟨Try.func46, Try.call46⟩ (
  .cons _ _ ⟨Try.func47, Try.call47⟩ (
  .cons _ _ ⟨Try.func48, Try.call48⟩ (
  .cons _ _ ⟨Try.func49, Try.call49⟩ (
  .cons _ _ ⟨Try.func50, Try.call50⟩ (
  .cons _ _ ⟨Try.func51, Try.call51⟩ (
  .cons _ _ ⟨Try.func52, Try.call52⟩ (
  .cons _ _ ⟨Try.func53, Try.call53⟩ (
  .cons _ _ ⟨Try.func54, Try.call54⟩ (
  .cons _ _ ⟨Try.func55, Try.call55⟩ (
  .cons _ _ ⟨Try.func56, Try.call56⟩ (
  .cons _ _ ⟨Try.func57, Try.call57⟩ (
  .cons _ _ ⟨Try.func58, Try.call58⟩ (
  .cons _ _ ⟨Try.func59, Try.call59⟩ (
  .cons _ _ ⟨Try.func60, Try.call60⟩ (
  .cons _ _ ⟨Try.func61, Try.call61⟩ (
  .cons _ _ ⟨Try.func62, Try.call62⟩ (
  .cons _ _ ⟨Try.func63, Try.call63⟩ (
  .cons _ _ ⟨Try.func64, Try.call64⟩ (
  .cons _ _ ⟨Try.func65, Try.call65⟩ (
  .cons _ _ ⟨Try.func66, Try.call66⟩ (
  .cons _ _ ⟨Try.func67, Try.call67⟩ (
  .cons _ _ ⟨Try.func68, Try.call68⟩ (
  .cons _ _ ⟨Try.func69, Try.call69⟩ (
  .cons _ _ ⟨Try.func70, Try.call70⟩ (
  .cons _ _ ⟨Try.func71, Try.call71⟩ (
  .cons _ _ ⟨Try.func72, Try.call72⟩ (
  .cons _ _ ⟨Try.func73, Try.call73⟩ (
  .cons _ _ ⟨Try.func74, Try.call74⟩ (
  .cons _ _ ⟨Try.func75, Try.call75⟩ (
  .cons _ _ ⟨Try.func76, Try.call76⟩ (
  .cons _ _ ⟨Try.func77, Try.call77⟩ (
  .cons _ _ ⟨Try.func78, Try.call78⟩ (
  .cons _ _ ⟨Try.func79, Try.call79⟩ (
  .cons _ _ ⟨Try.func80, Try.call80⟩ (
  .cons _ _ ⟨Try.func81, Try.call81⟩ (
  .cons _ _ ⟨Try.func82, Try.call82⟩ (
  .cons _ _ ⟨Try.func83, Try.call83⟩ (
  .cons _ _ ⟨Try.func84, Try.call84⟩ (
  .cons _ _ ⟨Try.func85, Try.call85⟩ (
  .cons _ _ ⟨Try.func86, Try.call86⟩ (
  .cons _ _ ⟨Try.func87, Try.call87⟩ (
  .cons _ _ ⟨Try.func88, Try.call88⟩ (
  .cons _ _ ⟨Try.func89, Try.call89⟩ (
  .cons _ _ ⟨Try.func90, Try.call90⟩ (
  .cons _ _ ⟨Try.func91, Try.call91⟩ (
  .cons _ _ ⟨Try.func92, Try.call92⟩ (
  .cons _ _ ⟨Try.func93, Try.call93⟩ (
  .cons _ _ ⟨Try.func94, Try.call94⟩ (
  .cons _ _ ⟨Try.func95, Try.call95⟩ (
  .cons _ _ ⟨Try.func96, Try.call96⟩ (
  .cons _ _ ⟨Try.func97, Try.call97⟩ (
  .cons _ _ ⟨Try.func98, Try.call98⟩ (
  .cons _ _ ⟨Try.func99, Try.call99⟩ (
  .cons _ _ ⟨Try.func100, Try.call100⟩ (
  .cons _ _ ⟨Try.func101, Try.call101⟩ (
  .cons _ _ ⟨Try.func102, Try.call102⟩ (
  .cons _ _ ⟨Try.func103, Try.call103⟩ (
  .cons _ _ ⟨Try.func104, Try.call104⟩ (
  .cons _ _ ⟨Try.func105, Try.call105⟩ (
  .cons _ _ ⟨Try.func106, Try.call106⟩ (
  .cons _ _ ⟨Try.func107, Try.call107⟩ (
  .cons _ _ ⟨Try.func108, Try.call108⟩ (
  .cons _ _ ⟨Try.func109, Try.call109⟩ (
  .cons _ _ ⟨Try.func110, Try.call110⟩ (
  .cons _ _ ⟨Try.func111, Try.call111⟩ (
  .cons _ _ ⟨Try.func112, Try.call112⟩ (
  .cons _ _ ⟨Try.func113, Try.call113⟩ (
  .cons _ _ ⟨Try.func114, Try.call114⟩ (
  .cons _ _ ⟨Try.func115, Try.call115⟩ (
  .cons _ _ ⟨Try.func116, Try.call116⟩ (
  .cons _ _ ⟨Try.func117, Try.call117⟩ (
  .cons _ _ ⟨Try.func118, Try.call118⟩ (
  .cons _ _ ⟨Try.func119, Try.call119⟩ (
  .cons _ _ ⟨Try.func120, Try.call120⟩ (
  .cons _ _ ⟨Try.func121, Try.call121⟩ (
  .cons _ _ ⟨Try.func122, Try.call122⟩ (
  .cons _ _ ⟨Try.func123, Try.call123⟩ (
  .cons _ _ ⟨Try.func124, Try.call124⟩ (
  .cons _ _ ⟨Try.func125, Try.call125⟩ (
  .cons _ _ ⟨Try.func126, Try.call126⟩ (
  .cons _ _ ⟨Try.func127, Try.call127⟩ (
  .cons _ _ ⟨Try.func128, Try.call128⟩ (
  .cons _ _ ⟨Try.func129, Try.call129⟩ (
  .cons _ _ ⟨Try.func130, Try.call130⟩ (
  .cons _ _ ⟨Try.func131, Try.call131⟩ (
  .cons _ _ ⟨Try.func132, Try.call132⟩ (
  .cons _ _ ⟨Try.func133, Try.call133⟩ (
  .cons _ _ ⟨Try.func134, Try.call134⟩ (
  .cons _ _ ⟨Try.func135, Try.call135⟩ (
  .cons _ _ ⟨Try.func136, Try.call136⟩ (
  .cons _ _ ⟨Try.func137, Try.call137⟩ (
  .cons _ _ ⟨Try.func138, Try.call138⟩ (
  .cons _ _ ⟨Try.func139, Try.call139⟩ (
  .cons _ _ ⟨Try.func140, Try.call140⟩ (
  .cons _ _ ⟨Try.func141, Try.call141⟩ (
  .cons _ _ ⟨Try.func142, Try.call142⟩ (
  .cons _ _ ⟨Try.func143, Try.call143⟩ (
  .cons _ _ ⟨Try.func144, Try.call144⟩ (
  .cons _ _ ⟨Try.func145, Try.call145⟩ (
  .cons _ _ ⟨Try.func146, Try.call146⟩ (
  .cons _ _ ⟨Try.func147, Try.call147⟩ (
  .cons _ _ ⟨Try.func148, Try.call148⟩ (
  .cons _ _ ⟨Try.func149, Try.call149⟩ (
  .cons _ _ ⟨Try.func150, Try.call150⟩ (
  .cons _ _ ⟨Try.func151, Try.call151⟩ (
  .cons _ _ ⟨Try.func152, Try.call152⟩ (
  .cons _ _ ⟨Try.func153, Try.call153⟩ (
  .cons _ _ ⟨Try.func154, Try.call154⟩ (
  .nil)))))))))))))))))))))))))))))))))))))))))))))))))))))))))))))))))))))))))))))))))))))))))))))))))))))))))))))))))))))))))))))))))))))))))))))))))))))))))
theorem tys_ok : AllOf (fun x => TyOK Try.prog x.1 x.2.1 x.2.2) tys :=
  .cons _ _ ty1 (
  .cons _ _ ty2 (
  .cons _ _ ty3 (
  .cons _ _ ty4 (
  .cons _ _ ty5 (
  .cons _ _ ty6 (
  .cons _ _ ty7 (
  .cons _ _ ty8 (
  .cons _ _ ty9 (
  .cons _ _ ty10 (
  .cons _ _ ty11 (
  .cons _ _ ty12 (
  .cons _ _ ty15 (
  .cons _ _ ty16 (
  .cons _ _ ty17 (
  .cons _ _ ty20 (
  .cons _ _ ty21 (
  .cons _ _ ty22 (
  .cons _ _ ty23 (
  .cons _ _ ty24 (
  .cons _ _ ty25 (
  .cons _ _ ty26 (
  .cons _ _ ty27 (
  .cons _ _ ty28 (
  .cons _ _ ty29 (
  .cons _ _ ty31 (
  .cons _ _ ty32 (
  .cons _ _ ty33 (
  .cons _ _ ty34 (
  .cons _ _ ty35 (
  .cons _ _ ty36 (
  .cons _ _ ty37 (
  .cons _ _ ty38 (
  .cons _ _ ty39 (
  .cons _ _ ty40 (
  .cons _ _ ty41 (
  .cons _ _ ty42 (
  .cons _ _ ty43 (
  .cons _ _ ty44 (
  .cons _ _ ty45 (
  .cons _ _ ty47 (
  .cons _ _ ty48 (
  .cons _ _ ty49 (
  .cons _ _ ty50 (
  .cons _ _ ty51 (
  .cons _ _ ty52 (
  .cons _ _ ty53 (
  .cons _ _ ty54 (
  .cons _ _ ty55 (
  .cons _ _ ty56 (
  .cons _ _ ty57 (
  .cons _ _ ty58 (
  .cons _ _ ty59 (
  .cons _ _ ty60 (
  .cons _ _ ty61 (
  .cons _ _ ty62 (
  .cons _ _ ty63 (
  .cons _ _ ty65 (
  .cons _ _ ty66 (
  .cons _ _ ty67 (
  .cons _ _ ty68 (
  .cons _ _ ty69 (
  .cons _ _ ty70 (
  .cons _ _ ty71 (
  .cons _ _ ty72 (
  .cons _ _ ty73 (
  .cons _ _ ty74 (
  .cons _ _ ty75 (
  .cons _ _ ty76 (
  .cons _ _ ty77 (
  .cons _ _ ty78 (
  .cons _ _ ty79 (
  .cons _ _ ty80 (
  .cons _ _ ty81 (
  .cons _ _ ty82 (
  .cons _ _ ty84 (
  .cons _ _ ty85 (
  .cons _ _ ty86 (
  .cons _ _ ty87 (
  .cons _ _ ty88 (
  .cons _ _ ty89 (
  .cons _ _ ty90 (
  .cons _ _ ty91 (
  .cons _ _ ty92 (
  .cons _ _ ty93 (
  .cons _ _ ty94 (
  .cons _ _ ty96 (
  .cons _ _ ty97 (
  .cons _ _ ty98 (
  .cons _ _ ty99 (
  .cons _ _ ty100 (
  .cons _ _ ty101 (
  .cons _ _ ty102 (
  .cons _ _ ty103 (
  .cons _ _ ty104 (
  .cons _ _ ty105 (
  .cons _ _ ty106 (
  .cons _ _ ty107 (
  .cons _ _ ty108 (
  .cons _ _ ty109 (
  .cons _ _ ty110 (
  .cons _ _ ty111 (
  .cons _ _ ty112 (
  .cons _ _ ty113 (
  .cons _ _ ty114 (
  .cons _ _ ty116 (
  .cons _ _ ty117 (
  .cons _ _ ty118 (
  .cons _ _ ty119 (
  .cons _ _ ty120 (
  .cons _ _ ty121 (
  .cons _ _ ty122 (
  .cons _ _ ty123 (
  .cons _ _ ty124 (
  .cons _ _ ty125 (
  .cons _ _ ty126 (
  .cons _ _ ty127 (
  .cons _ _ ty128 (
  .cons _ _ ty129 (
  .cons _ _ ty130 (
  .cons _ _ ty131 (
  .cons _ _ ty132 (
  .cons _ _ ty133 (
  .cons _ _ ty134 (
  .cons _ _ ty135 (
  .cons _ _ ty136 (
  .cons _ _ ty137 (
  .cons _ _ ty138 (
  .cons _ _ ty139 (
  .cons _ _ ty140 (
  .cons _ _ ty141 (
  .cons _ _ ty142 (
  .cons _ _ ty143 (
  .cons _ _ ty144 (
  .cons _ _ ty145 (
  .cons _ _ ty146 (
  .cons _ _ ty147 (
  .cons _ _ ty148 (
  .cons _ _ ty149 (
  .cons _ _ ty150 (
  .cons _ _ ty151 (
  .cons _ _ ty152 (
  .cons _ _ ty153 (
  .cons _ _ ty154 (
  .cons _ _ ty155 (
  .cons _ _ ty156 (
  .cons _ _ ty157 (
  .cons _ _ ty158 (
  .cons _ _ ty159 (
  .cons _ _ ty160 (
  .cons _ _ ty161 (
  .cons _ _ ty163 (
  .cons _ _ ty164 (
  .cons _ _ ty165 (
  .cons _ _ ty166 (
  .cons _ _ ty167 (
  .cons _ _ ty168 (
  .cons _ _ ty169 (
  .cons _ _ ty171 (
  .cons _ _ ty172 (
  .cons _ _ ty173 (
  .cons _ _ ty174 (
  .cons _ _ ty175 (
  .cons _ _ ty176 (
  .cons _ _ ty177 (
  .cons _ _ ty178 (
  .cons _ _ ty179 (
  .cons _ _ ty180 (
  .cons _ _ ty181 (
  .cons _ _ ty183 (
  .cons _ _ ty184 (
  .cons _ _ ty186 (
  .cons _ _ ty187 (
  .cons _ _ ty188 (
  .cons _ _ ty191 (
  .cons _ _ ty194 (
  .cons _ _ ty195 (
  .cons _ _ ty196 (
  .cons _ _ ty197 (
  .cons _ _ ty198 (
  .cons _ _ ty199 (
  .cons _ _ ty202 (
  .nil))))))))))))))))))))))))))))))))))))))))))))))))))))))))))))))))))))))))))))))))))))))))))))))))))))))))))))))))))))))))))))))))))))))))))))))))))))))))))))))))))))))))))))))))))))))
noncomputable def E0 : Env := envOf fns tys
theorem E0_ok (w : World) : EnvOK E0 Try.prog := envOf_ok w fns_ok tys_ok (by kernel_rfl)
end Go.Proofs.Ytgikimegikelkaa.AbT
